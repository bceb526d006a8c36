import Derived.Test.YtaeegkjcjlnanaaGreatDoorTP3Copy
import Derived.Test.YtaeegkjcjlnanaaGreatDoorTP3Cur
set_option linter.unusedVariables false
set_option linter.unusedSimpArgs false
namespace TT
open Go
def wt (l : List A0) : Nat := l.length + szs A0.sz l
theorem Hd (x : A0) (l : List A0) : wt (x :: l) = 1 + x.sz + wt l := by rw [wt, wt, FI, List.length_cons]; omega
theorem Gj : ∀ a b : List A0, wt (a ++ b) = wt a + wt b
 | [], b => by rw [List.nil_append]; show _ = 0 + _; omega
 | x :: a, b => by rw [List.cons_append, Hd, Hd, Gj a b]; omega
theorem Wi (l : List A0) : l.length ≤ wt l := Nat.le_add_right _ _
def VV (y : A0) (s : ByteArray) : A0 := A0.mk y.Kind y.Pre y.Local y.Uri y.Decls y.Attrs y.Kids s
theorem gj (x : A0) : x.Text.size ≤ x.sz := by rw [A0.sz_eq x]; omega
theorem jg (y x : A0) : (VV y (y.Text ++ x.Text)).sz ≤ y.sz + x.sz := by
 have := gj x
 rw [A0.sz_eq (VV _ _), A0.sz_eq y]
 simp only [VV, ByteArray.size_append]
 omega
def XO (out : List A0) (x : A0) : List A0 :=
 if x.Kind = 2 then (if x.Text = ⟨#[]⟩ then out else match out.getLast? with
  | some y => if y.Kind = 2 then out.dropLast ++ [VV y (y.Text ++ x.Text)] else out ++ [x]
  | none => out ++ [x]) else out ++ [x]
theorem t7 (out : List A0) (x : A0) : wt (XO out x) ≤ wt out + (1 + x.sz) := by
 have h1 : wt (out ++ [x]) = wt out + (1 + x.sz) := by rw [Gj, Hd]; rfl
 unfold XO
 split
 ·split
  ·omega
  ·rcases List.eq_nil_or_concat out with rfl | ⟨o, y, rfl⟩
   ·exact Nat.le_of_eq h1
   ·rw [List.concat_eq_append] at h1 ⊢
    simp only [List.getLast?_concat, List.dropLast_concat]
    split
    ·rw [Gj, Gj, Hd, Hd]
     have := jg y x
     omega
    ·exact Nat.le_of_eq h1
 ·exact Nat.le_of_eq h1
theorem nB {o : List A0} {y : A0} (h : o.length ≤ 4000000) : BA (AC (o ++ [y])) 1 = (o.length : Int) := by
 rw [BT (by simp only [AC, List.length_append, List.length_singleton]; omega) (by simp only [AC, List.length_append, List.length_singleton]; omega)]
 simp only [AC, List.length_append, List.length_singleton]; omega
theorem t8 (o : List A0) (y z : A0) : (o ++ [y]).set (Int.toNat (o.length : Int)) z = o ++ [z] := by simp
theorem wg {x y : ByteArray} (h : x.size + y.size ≤ 4000000) : bP x y = some (x ++ y) := by unfold bP; rw [if_pos (by omega)]
theorem A0d {x y : ByteArray} (h : x ≠ y) : D7 x y = false := by
 cases e : D7 x y with
 | false => rfl
 | true => exact absurd (VR.1 e) h
section
variable (l : List A0) (hl : l.length ≤ 4000000)
include hl
theorem Xw {pre rest out : List A0} {x : A0} (hp : pre ++ x :: rest = l) (hw : wt out + (1 + x.sz) ≤ 1048576) : Bf l out pre.length = Bf l (XO out x) ((pre ++ [x]).length : Nat) := by
 have hol := Wi out
 have hcp := Wg x (by omega)
 have hr : room (out.length + 1) 144 = some () := DO (by omega) (by omega) (by omega)
 have hx := gj x
 rw [Bf, EV hp, CT hp, DN hp (by rw [BX]; omega)]
 simp only [if_true, A5]
 have app : Do l out pre.length false x = Bf l (out ++ [x]) ((pre ++ [x]).length : Nat) := by
  rw [Do, hcp, hr, DN hp (by rw [BX]; omega)]; rfl
 unfold XO
 by_cases h2 : x.Kind = 2
 ·rw [QB h2, if_pos h2]
  simp only [if_true]
  by_cases h3 : x.Text = ⟨#[]⟩
  ·rw [VR.2 h3, if_pos h3]; rfl
  ·rw [A0d h3, if_neg h3]
   simp only [Bool.false_eq_true, if_false]
   rcases List.eq_nil_or_concat out with rfl | ⟨o, y, rfl⟩
   ·rw [TR (by simp [AC])]
    exact app
   ·rw [List.concat_eq_append] at app hr hw hol ⊢
    rw [Gj, Hd] at hw
    have hy := gj y
    have hol' : o.length ≤ 4000000 := by rw [List.length_append] at hol; have := Wi o; omega
    rw [PG (by simp only [AC, List.length_append, List.length_singleton]; omega), nB hol']
    simp only [if_true, CT (show o ++ y :: [] = o ++ [y] from rfl), A5, List.getLast?_concat, List.dropLast_concat]
    by_cases h4 : y.Kind = 2
    ·rw [QB h4, if_pos h4, Do, nB hol']
     simp only [if_true, CT (show o ++ y :: [] = o ++ [y] from rfl), A5, wg (show y.Text.size + x.Text.size ≤ 4000000 by omega), t8, DN hp (show l.length ≤ maxLen by rw [BX]; omega)]
     rfl
    ·rw [LS h4, if_neg h4]; exact app
 ·rw [LS h2, if_neg h2]
  simp only [Bool.false_eq_true, if_false, hcp, hr, A5]
end
def U4 (l : List A0) : List A0 := l.foldl XO []
theorem XP (l : List A0) (hl : l.length ≤ 4000000) : ∀ rest pre out : List A0, pre ++ rest = l → wt out + wt rest ≤ 1048576 →
  Bf l out pre.length = some (rest.foldl XO out) ∧ wt (rest.foldl XO out) ≤ wt out + wt rest
 | [], pre, out, hp, hw => ⟨by rw [Bf, Fd hp]; rfl, Nat.le_add_right _ _⟩
 | x :: rest, pre, out, hp, hw => by
  rw [Hd] at hw ⊢
  have h1 := t7 out x
  rw [Xw l hl hp (by omega)]
  obtain ⟨g1, g3⟩ := XP l hl rest (pre ++ [x]) (XO out x) (Er hp) (by omega)
  exact ⟨g1, by rw [List.foldl_cons]; omega⟩
theorem mJ (l : List A0) (h : wt l ≤ 1048576) : Hl l = some (U4 l) ∧ wt (U4 l) ≤ wt l := by
 have := Wi l
 obtain ⟨g1, g3⟩ := XP l (by omega) l [] [] rfl (by show 0 + _ ≤ _; omega)
 exact ⟨by rw [Hl]; exact g1, by have : wt [] = 0 := rfl; rw [this, Nat.zero_add] at g3; exact g3⟩
end TT
namespace TT
open Go
structure Dok (l : List A1) (n : Nat) : Prop where
 len : l.length ≤ n
 each : ∀ d ∈ l, d.Pre.size ≤ 1 ∧ d.Uri.size ≤ 5
theorem Dok.push {l : List A1} {n : Nat} (h : Dok l n) {d : A1} (hd : d.Pre.size ≤ 1 ∧ d.Uri.size ≤ 5) : Dok (l ++ [d]) (n + 1) :=
 ⟨by have := h.len; simp; omega, fun x hx => by rcases List.mem_append.1 hx with hx | hx; exact h.each x hx; simp at hx; rw [hx]; exact hd⟩
theorem Dok.le {l : List A1} {n m : Nat} (h : Dok l n) (hm : n ≤ m) : Dok l m := ⟨Nat.le_trans h.len hm, h.each⟩
theorem Dok.sz {l : List A1} {n : Nat} (h : Dok l n) : szs A1.sz l ≤ 6 * l.length := by
 have : ∀ l : List A1, (∀ d ∈ l, d.Pre.size ≤ 1 ∧ d.Uri.size ≤ 5) → szs A1.sz l ≤ 6 * l.length := by
  intro l
  induction l with
  | nil => intro _; exact Nat.le_refl _
  | cons x l ih =>
   intro h
   have h1 := h x (List.mem_cons_self ..)
   have h2 := ih fun d hd => h d (List.mem_cons_of_mem _ hd)
   rw [FI, A1.sz_eq, List.length_cons]; omega
 exact this l h.each
theorem Dw {l : List ByteArray} {n : Nat} {x : ByteArray} (h : x ∈ l) (hl : ∀ y ∈ l, y.size ≤ n) : x.size ≤ n := hl x h
theorem eC (c : A2) (h : Fe c) : AT (KF c) fun r => r.1.size ≤ 5 ∧ Fe r.2 := by
 rw [KF]
 exact (B4 c h _ (by decide)).bnd fun r hr => AT.ret ⟨Dw hr.1 (by decide), hr.2⟩
theorem U5 (c : A2) (h : Fe c) : AT (GB c) fun r => (r.1.Pre.size ≤ 1 ∧ r.1.Uri.size ≤ 5) ∧ Fe r.2 := by
 rw [GB]
 refine (B4 c h _ (by decide)).bnd fun r hr => (eC _ hr.2).bnd fun s hs => ?_
 have hp : r.1.size ≤ 1 := Dw hr.1 (by decide)
 exact AT.ite (fun _ => (Ed _ hs.2 _).bnd fun t ht => AT.ite (fun _ => AT.ret ⟨⟨hp, Nat.zero_le _⟩, ht⟩) fun _ => AT.ret ⟨⟨hp, hs.1⟩, ht⟩) fun _ => AT.ret ⟨⟨hp, hs.1⟩, hs.2⟩
theorem eD {α : Type} {l : List α} (h : Av (AC l) 0 = false) (hl : l.length ≤ 4000000) : AH (getI l (BA (AC l) 1)) := by
 have hn : (l.length : Int) ≠ 0 := fun e => by rw [QB (show AC l = 0 from e)] at h; cases h
 rw [BT (by simp only [AC]; omega) (by simp only [AC]; omega)]
 exact (AT.getI (by simp only [AC]; omega) (by simp only [AC]; omega)).ends
theorem jh : ∀ (m : Nat) (l : List A1) (c : A2) (n : Nat), n + m ≤ 200 → Fe c → Dok l n → AT (Bc l (m : Nat) c) fun r => Dok r.1 (n + m) ∧ Fe r.2 := by
 intro m
 induction m with
 | zero => intro l c n hn hc hl; rw [Bc, TR (by omega)]; exact AT.ret ⟨hl, hc⟩
 | succ m ih =>
  intro l c n hn hc hl
  have hll := hl.len
  rw [Bc, PG (by omega), show BA ((m + 1 : Nat) : Int) 1 = (m : Int) by rw [BT (by omega) (by omega)]; omega]
  simp only [if_true]
  refine (U5 c hc).bnd fun r hr => ?_
  have a : AT (Bc (l ++ [r.1]) (m : Nat) r.2) fun q => Dok q.1 (n + (m + 1)) ∧ Fe q.2 := (ih _ _ (n + 1) (by omega) hr.2 (hl.push hr.1)).mono fun q hq => ⟨hq.1.le (by omega), hq.2⟩
  have b : AT (Bc l (m : Nat) r.2) fun q => Dok q.1 (n + (m + 1)) ∧ Fe q.2 := (ih _ _ n (by omega) hr.2 hl).mono fun q hq => ⟨hq.1.le (by omega), hq.2⟩
  have rm : AT (room (l.length + 1) 32) fun _ => True := AT.room (by omega)
  exact AT.ite (fun _ => rm.bnd fun _ _ => a) fun h0 => (eD h0 (by omega)).tot.bnd fun _ _ => AT.ite (fun _ => rm.bnd fun _ _ => a) fun _ => b
theorem Rw {a n : Int} (h0 : 0 ≤ a) (h : a < n ∨ a = 0) (hn : 0 < n) : ∃ m : Nat, a = m ∧ (m : Int) < n := ⟨a.toNat, by omega, by omega⟩
theorem Zq (c : A2) (h : Fe c) : AT (I1 c) fun r => Dok r.1 3 ∧ Fe r.2 := by
 rw [I1]
 refine (Ck c h 4).bnd fun r hr => ?_
 obtain ⟨m, e, hm⟩ := Rw hr.1 hr.2.1 (by omega)
 rw [e]
 exact (jh m [] r.2 0 (by omega) hr.2.2 ⟨Nat.le_refl _, fun d hd => by cases hd⟩).mono fun q hq => ⟨hq.1.le (by omega), hq.2⟩
theorem pD (c : A2) (h : Fe c) : AT (NP c) fun r => r.1.size ≤ 5 ∧ Fe r.2 := by
 rw [NP]
 exact (B4 c h _ (by decide)).bnd fun r hr => AT.ret ⟨Dw hr.1 (by decide), hr.2⟩
structure ji (r3 : List A1) (k : Nat) : Prop where
 dok : Dok r3 k
 few : k ≤ 100000
theorem ji.space {r3 : List A1} {k : Nat} (h : ji r3 k) (p : ByteArray) : AT (Bi r3 p) fun r => r.1.size ≤ 5 :=
 eB r3 p (by have := h.dok.len; have := h.few; omega) 5 fun d hd => (h.dok.each d hd).2
def Aok (l : List A3) (n : Nat) : Prop := l.length ≤ n ∧ ∀ a ∈ l, a.sz ≤ 20
theorem Aok.push {l : List A3} {n : Nat} (h : Aok l n) {a : A3} (ha : a.sz ≤ 20) : Aok (l ++ [a]) (n + 1) :=
 ⟨by have := h.1; simp; omega, fun x hx => by rcases List.mem_append.1 hx with hx | hx; exact h.2 x hx; simp at hx; rw [hx]; exact ha⟩
theorem Aok.szs {l : List A3} {n : Nat} (h : Aok l n) : szs A3.sz l ≤ 20 * l.length := by
 have : ∀ l : List A3, (∀ d ∈ l, d.sz ≤ 20) → TT.szs A3.sz l ≤ 20 * l.length := by
  intro l
  induction l with
  | nil => intro _; exact Nat.le_refl _
  | cons x l ih =>
   intro h
   have h1 := h x (List.mem_cons_self ..)
   have h2 := ih fun d hd => h d (List.mem_cons_of_mem _ hd)
   rw [FI, List.length_cons]; omega
 exact this l h.2
def Eok (m : Nat) (x : A0 × A2 × Int) : Prop := Fe x.2.1 ∧ ∃ k : Nat, x.2.2 = (k : Int) ∧ k ≤ m ∧ x.1.sz + 1 + 200 * k ≤ 200 * (m + 1)
section
variable {in1 r3 : List A1} {k : Nat} (he : ji r3 k)
include he
theorem wh (m : Nat) (hm : m ≤ 1000) (ih : ∀ m', m' < m → ∀ (c : A2) (r3 : List A1) (k : Nat), ji r3 k → k + 3 * (m' + 1) ≤ 100000 → Fe c → AT (FG c r3 (m' : Nat)) (Eok m')) (hk : k + 3 * m ≤ 100000)
  (nPre : ByteArray) (r : ByteArray × A2) (u : ByteArray) (nD : List A1) (nA : List A3) (h1 : nPre.size ≤ 1) (h2 : r.1.size ≤ 4) (h3 : u.size ≤ 5) (h4 : Dok nD 3) (h5 : Aok nA 2) :
  ∀ (i m1 : Nat) (c : A2) (ks : List A0), i ≤ 10 → m1 ≤ m → Fe c → wt ks + 200 * m1 ≤ 200 * m → AT (CI r3 (i : Nat) c (m1 : Nat) nPre r u nD nA ks) (Eok m) := by
 have fin : ∀ (m1 : Nat) (c : A2) (ks : List A0), m1 ≤ m → Fe c → wt ks + 200 * m1 ≤ 200 * m → AT (Hl ks >>= fun q => some ((A0.mk 1 nPre r.1 u nD nA q (⟨#[]⟩)), c, (m1 : Int))) (Eok m) := by
  intro m1 c ks hm1 hc hw
  obtain ⟨g1, g2⟩ := mJ ks (by omega)
  rw [g1]
  refine AT.ret ⟨hc, m1, rfl, hm1, ?_⟩
  have d1 := h4.sz; have d2 := h4.len; have a1 := h5.szs; have a2 := h5.1
  have hwt : wt (U4 ks) = (U4 ks).length + szs A0.sz (U4 ks) := rfl
  rw [A0.sz_eq]
  show nPre.size + (r.1.size + (u.size + ((nD.length + szs A1.sz nD) + ((nA.length + szs A3.sz nA) + (((U4 ks).length + szs A0.sz (U4 ks)) + 0))))) + 1 + 200 * m1 ≤ _
  omega
 intro i
 induction i with
 | zero =>
  intro m1 c ks _ hm1 hc hw
  rw [CI, TR (by omega)]
  exact fin m1 c ks hm1 hc hw
 | succ i ihi =>
  intro m1 c ks hi hm1 hc hw
  have hlen := Wi ks
  rw [CI, PG (by omega)]
  simp only [if_true]
  by_cases h0 : m1 = 0
  ·rw [TR (by omega)]
   exact fin m1 c ks hm1 hc hw
  ·rw [PG (by omega)]
   simp only [if_true]
   have e1 : BA ((i + 1 : Nat) : Int) 1 = (i : Int) := by rw [BT (by omega) (by omega)]; omega
   have e2 : BA (m1 : Int) 1 = ((m1 - 1 : Nat) : Int) := by rw [BT (by omega) (by omega)]; omega
   have rm : AT (room (ks.length + 1) 144) fun _ => True := AT.room (by omega)
   have leaf : ∀ (c' : A2) (x : A0), Fe c' → x.sz ≤ 20 → AT (CI r3 (i : Nat) c' ((m1 - 1 : Nat) : Int) nPre r u nD nA (ks ++ [x])) (Eok m) := fun c' x hc' hx =>
    ihi (m1 - 1) c' _ (by omega) (by omega) hc' (by rw [Gj, Hd]; show _ + (1 + x.sz + 0) + _ ≤ _; omega)
   have j81 : ∀ (q : Int × A2) (b : Bool), Fe q.2 → AT (H7 r3 ((i + 1 : Nat) : Int) q b (m1 : Int) nPre r u nD nA ks) (Eok m) := fun q b hq => by
    rw [H7, e1, e2]
    refine AT.ite (fun _ => (B4 _ hq _ (by decide)).bnd fun s hs => rm.bnd fun _ _ => leaf _ _ hs.2 ?_) fun _ => AT.ite (fun _ => (B4 _ hq _ (by decide)).bnd fun s hs => rm.bnd fun _ _ => leaf _ _ hs.2 ?_) fun _ => AT.ite (fun _ => (B4 _ hq _ (by decide)).bnd fun s hs => rm.bnd fun _ _ => leaf _ _ hs.2 ?_) fun _ => ?_
    ·have := Dw (n := 5) hs.1 (by decide); rw [A0.sz_eq]; show 0 + (0 + (0 + ((0 + 0) + ((0 + 0) + ((0 + 0) + s.1.size))))) ≤ _; omega
    ·have := Dw (n := 5) hs.1 (by decide); rw [A0.sz_eq]; show 0 + (0 + (0 + ((0 + 0) + ((0 + 0) + ((0 + 0) + s.1.size))))) ≤ _; omega
    ·have := Dw (n := 5) hs.1 (by decide); rw [A0.sz_eq]; show 0 + (1 + (0 + ((0 + 0) + ((0 + 0) + ((0 + 0) + s.1.size))))) ≤ _; omega
    ·refine (ih (m1 - 1) (by omega) _ r3 k he (by omega) hq).bnd fun x hx => rm.bnd fun _ _ => ?_
     obtain ⟨x1, k', x2, x3, x4⟩ := hx
     rw [x2]
     exact ihi k' _ _ (by omega) (by omega) x1 (by rw [Gj, Hd]; show _ + (1 + x.1.sz + 0) + _ ≤ _; omega)
   exact (Ck c hc 6).bnd fun q hq => AT.ite (fun _ => j81 _ _ hq.2.2) fun _ => j81 _ _ hq.2.2
theorem wi (m : Nat) (hm : m ≤ 1000) (ih : ∀ m', m' < m → ∀ (c : A2) (r3 : List A1) (k : Nat), ji r3 k → k + 3 * (m' + 1) ≤ 100000 → Fe c → AT (FG c r3 (m' : Nat)) (Eok m')) (hk : k + 3 * m ≤ 100000)
  (nPre : ByteArray) (r : ByteArray × A2) (u : ByteArray) (nD : List A1) (h1 : nPre.size ≤ 1) (h2 : r.1.size ≤ 4) (h3 : u.size ≤ 5) (h4 : Dok nD 3) :
  ∀ (i n : Nat) (c : A2) (nA : List A3), n + i ≤ 2 → Fe c → Aok nA n → AT (DT r3 (i : Nat) c (m : Nat) nPre r u nD nA) (Eok m) := by
 intro i
 induction i with
 | zero =>
  intro n c nA hn hc hA
  rw [DT, TR (by omega)]
  simp only [Bool.false_eq_true, if_false]
  refine (Ck c hc 4).bnd fun q hq => ?_
  obtain ⟨i, e, hi⟩ := Rw hq.1 hq.2.1 (by omega)
  rw [e]
  exact wh he m hm ih hk nPre r u nD nA h1 h2 h3 h4 ⟨by have := hA.1; omega, hA.2⟩ i m _ [] (by omega) (Nat.le_refl _) hq.2.2 (by show 0 + _ ≤ _; omega)
 | succ i ihi =>
  intro n c nA hn hc hA
  have e1 : BA ((i + 1 : Nat) : Int) 1 = (i : Int) := by rw [BT (by omega) (by omega)]; omega
  rw [DT, PG (by omega)]
  simp only [if_true]
  have hlA := hA.1
  have rm : AT (room (nA.length + 1) 64) fun _ => True := AT.room (by omega)
  have j49 : ∀ (q : ByteArray × A2) (a : A3), Fe q.2 → a.sz ≤ 20 → AT (Fk r3 ((i + 1 : Nat) : Int) q (m : Nat) nPre r u nD nA a) (Eok m) := fun q a hq ha => by
   have x1 := ihi (n + 1) _ _ (by omega) hq (hA.push ha)
   have x2 := ihi n _ _ (by omega) hq hA
   rw [Fk, e1]
   exact AT.ite (fun _ => rm.bnd fun _ _ => x1) fun h0 => (eD h0 (by omega)).tot.bnd fun _ _ => (e9 _ _).tot.bnd fun _ _ => AT.ite (fun _ => rm.bnd fun _ _ => x1) fun _ => x2
  refine (B4 c hc _ (by decide)).bnd fun a ha => (pD _ ha.2).bnd fun v hv => (B4 _ hv.2 _ (by decide)).bnd fun p hp => (he.space _).bnd fun w hw => ?_
  have s1 := Dw (n := 2) ha.1 (by decide)
  have s2 := Dw (n := 1) hp.1 (by decide)
  have s3 := hv.1
  refine AT.ite (fun _ => AT.ite (fun _ => j49 _ _ hp.2 ?_) fun _ => j49 _ _ hp.2 ?_) fun _ => j49 _ _ hp.2 ?_
  ·rw [A3.sz_eq]; show p.1.size + (a.1.size + (w.1.size + v.1.size)) ≤ _; omega
  ·rw [A3.sz_eq]; show 0 + (a.1.size + (0 + v.1.size)) ≤ _; omega
  ·rw [A3.sz_eq]; show 0 + (a.1.size + (0 + v.1.size)) ≤ _; omega
end
theorem tA : ∀ (m : Nat), m ≤ 1000 → ∀ (c : A2) (r3 : List A1) (k : Nat), ji r3 k → k + 3 * (m + 1) ≤ 100000 → Fe c → AT (FG c r3 (m : Nat)) (Eok m) := by
 intro m
 induction m using Nat.strongRecOn with
 | _ m ih =>
  intro hm c in1 k he hk hc
  have ih' : ∀ m', m' < m → ∀ (c : A2) (r3 : List A1) (k : Nat), ji r3 k → k + 3 * (m' + 1) ≤ 100000 → Fe c → AT (FG c r3 (m' : Nat)) (Eok m') := fun m' h => ih m' h (by omega)
  rw [FG]
  refine (B4 c hc _ (by decide)).bnd fun r hr => ?_
  have hr4 : r.1.size ≤ 4 := Dw hr.1 (by decide)
  have j4 : ∀ (c1 : A2) (nD : List A1), Fe c1 → Dok nD 3 → AT (JP in1 c1 (m : Nat) r nD) (Eok m) := fun c1 nD hc1 hD => by
   have hl := he.dok.len; have hl2 := hD.len; have hf := he.few
   rw [JP, je _ _ (by omega)]
   have he2 : ji (in1 ++ nD) (k + 3) := ⟨⟨by rw [List.length_append]; omega, fun d hd => by rcases List.mem_append.1 hd with h | h; exact he.dok.each d h; exact hD.each d h⟩, by omega⟩
   have j20 : ∀ (u : ByteArray) (c2 : A2) (p : ByteArray), Fe c2 → u.size ≤ 5 → p.size ≤ 1 → AT (H6 (in1 ++ nD) u c2 (m : Nat) p r nD) (Eok m) := fun u c2 p hc2 hu hp => by
    rw [H6]
    refine (Ck c2 hc2 3).bnd fun q hq => ?_
    obtain ⟨i, e, hi⟩ := Rw hq.1 hq.2.1 (by omega)
    rw [e]
    exact wi he2 m hm ih' (by omega) p r u nD hp hr4 hu hD i 0 _ [] (by omega) hq.2.2 ⟨Nat.le_refl _, fun d hd => by cases hd⟩
   have j12 : ∀ (c2 : A2) (p : ByteArray), Fe c2 → p.size ≤ 1 → AT (H5 (in1 ++ nD) c2 (m : Nat) p r nD) (Eok m) := fun c2 p hc2 hp => by
    rw [H5]
    exact (he2.space _).bnd fun w hw => AT.ite (fun _ => j20 _ _ _ hc2 hw hp) fun _ => (he2.space _).bnd fun w hw => j20 _ _ _ hc2 hw (Nat.zero_le _)
   rw [A5]
   exact (Ed _ hc1 _).bnd fun q hq => AT.ite (fun _ => (B4 _ hq _ (by decide)).bnd fun s hs => j12 _ _ hs.2 (Dw hs.1 (by decide))) fun _ => j12 _ _ hq (Nat.zero_le _)
  exact (Ed _ hr.2 _).bnd fun q hq => AT.ite (fun _ => (Zq _ hq).bnd fun d hd => j4 _ _ hd.2 hd.1) fun _ => j4 _ _ hq ⟨Nat.zero_le _, fun d hd => by cases hd⟩
end TT
namespace TT
open Go
theorem wj : (A0.mk 3 (⟨#[]⟩) (⟨#[]⟩) (⟨#[]⟩) [] [] [] (⟨#[104]⟩)).sz = 1 := by rw [A0.sz_eq]; rfl
theorem wk : (A0.mk 4 (⟨#[]⟩) (⟨#[116]⟩) (⟨#[]⟩) [] [] [] (⟨#[101, 110, 100]⟩)).sz = 4 := by rw [A0.sz_eq]; rfl
theorem wl : (A0.mk 0 (⟨#[]⟩) (⟨#[]⟩) (⟨#[]⟩) [] [] [(A0.mk 1 (⟨#[]⟩) (⟨#[97]⟩) (⟨#[]⟩) [] [] [] (⟨#[]⟩))] (⟨#[]⟩)).sz = 2 := by rw [A0.sz_eq, FI, A0.sz_eq]; rfl
theorem zg (ks : List A0) : (A0.mk 0 (⟨#[]⟩) (⟨#[]⟩) (⟨#[]⟩) [] [] ks (⟨#[]⟩)).sz = wt ks := by rw [A0.sz_eq, wt]; show 0 + (0 + (0 + ((0 + 0) + ((0 + 0) + ((ks.length + szs A0.sz ks) + 0))))) = ks.length + szs A0.sz ks; omega
theorem XQ (P : A0 → Prop) (hP : ∀ n, n.sz ≤ 3000 → D4 n = some true → P n) (h0 : P (A0.mk 0 (⟨#[]⟩) (⟨#[]⟩) (⟨#[]⟩) [] [] [(A0.mk 1 (⟨#[]⟩) (⟨#[97]⟩) (⟨#[]⟩) [] [] [] (⟨#[]⟩))] (⟨#[]⟩))) (c : A2) (h : Fe c) : AT (GH c) fun r => r.1.sz ≤ 3000 ∧ Fe r.2 ∧ P r.1 := by
 have j16 : ∀ (q : Bool × A2) (ks : List A0), Fe q.2 → wt ks ≤ 3000 → AT (E4 q ks) fun r => r.1.sz ≤ 3000 ∧ Fe r.2 ∧ P r.1 := fun q ks hq hk => by
  have e := zg ks
  rw [E4]
  obtain ⟨b, eb⟩ := jf (A0.mk 0 (⟨#[]⟩) (⟨#[]⟩) (⟨#[]⟩) [] [] ks (⟨#[]⟩)) (by omega)
  rw [eb]
  exact AT.ite (fun hb => AT.ret ⟨Nat.le_trans (Nat.le_of_eq e) hk, hq, hP _ (Nat.le_trans (Nat.le_of_eq e) hk) (by rw [eb, hb])⟩) fun _ => AT.ret ⟨by show A0.sz _ ≤ _; rw [wl]; omega, hq, h0⟩
 have j6 : ∀ (q : Bool × A2) (p : Int × A2) (m : Nat) (ks : List A0), Fe q.2 → p.1 = (m : Int) → m ≤ 7 → wt ks ≤ 10 → AT (FH q p ks) fun r => r.1.sz ≤ 3000 ∧ Fe r.2 ∧ P r.1 := fun q p m ks hq hp hm hk => by
  have hl := Wi ks
  rw [FH, hp, show AP 3 (m : Int) = ((m + 3 : Nat) : Int) by rw [Al (by omega) (by omega)]; omega]
  refine (tA (m + 3) (by omega) q.2 [] 0 ⟨⟨Nat.le_refl _, fun d hd => by cases hd⟩, by omega⟩ (by omega) hq).bnd fun x hx => ?_
  obtain ⟨x1, k, x2, x3, x4⟩ := hx
  have w1 : wt (ks ++ [x.1]) ≤ 2300 := by rw [Gj, Hd]; show _ + (1 + x.1.sz + 0) ≤ _; omega
  have rm1 : AT (room (ks.length + 1) 144) fun _ => True := AT.room (by omega)
  have rm2 : AT (room ((ks ++ [x.1]).length + 1) 144) fun _ => True := AT.room (by have := Wi (ks ++ [x.1]); omega)
  refine rm1.bnd fun _ _ => (Ed _ x1 _).bnd fun s hs => AT.ite (fun _ => rm2.bnd fun _ _ => j16 _ _ hs ?_) fun _ => j16 _ _ hs (by omega)
  rw [Gj, Hd, wk]
  show _ + (1 + 4 + 0) ≤ _
  omega
 rw [GH]
 refine (Ck c h 8).bnd fun p hp => ?_
 obtain ⟨m, e, hm⟩ := Rw hp.1 hp.2.1 (by omega)
 exact (Ed _ hp.2.2 _).bnd fun q hq => AT.ite (fun _ => (AT.room (by omega)).bnd fun _ _ => j6 _ _ m _ hq e (by omega) (by rw [List.nil_append, Hd, wj]; show 1 + 1 + 0 ≤ _; omega)) fun _ => j6 _ _ m _ hq e (by omega) (by show 0 ≤ _; omega)
theorem mK (c : A2) (h : Fe c) : AT (GH c) fun r => r.1.sz ≤ 3000 ∧ Fe r.2 := (XQ (fun _ => True) (fun _ _ _ => trivial) trivial c h).mono fun r hr => ⟨hr.1, hr.2.1⟩
end TT
namespace TT
open Go
theorem XR (c : A2) (h : Fe c) (n : A0) (hn : n.sz ≤ 100000) : AT (Gf c n) fun r => r.1.length ≤ n.sz + 1 ∧ Fe r.2 := by
 have j6 : ∀ (p : List Int) (c : A2), Fe c → p.length ≤ 100000 → AT (E5 p c) fun r => r.1.length ≤ p.length + 1 ∧ Fe r.2 := fun p c hc hp => by
  have rm : AT (room (p.length + 1) 8) fun _ => True := AT.room (by omega)
  rw [E5]
  exact (Ed _ hc _).bnd fun s hs => AT.ite (fun _ => (NC _ hs _ (by decide)).bnd fun i hi => rm.bnd fun _ _ => AT.ret ⟨by simp, hi.2⟩) fun _ => AT.ret ⟨by show p.length ≤ _; omega, hs⟩
 have key : ∀ x : A0, ∀ (p : List Int) (c : A2), Fe c → p.length + x.sz ≤ 100000 → AT (E6 p c x) fun r => r.1.length ≤ p.length + x.sz + 1 ∧ Fe r.2 := by
  refine A0.ind' fun x ih p c hc hp => ?_
  have hz := A0.sz_eq x
  have rm : AT (room (p.length + 1) 8) fun _ => True := AT.room (by omega)
  rw [E6]
  refine AT.ite (fun h0 => (Ed _ hc _).bnd fun s hs => AT.ite (fun _ => (j6 _ _ hs (by omega)).mono fun r hr => ⟨by have := hr.1; omega, hr.2⟩) fun _ => ?_) fun _ => (j6 _ _ hc (by omega)).mono fun r hr => ⟨by have := hr.1; omega, hr.2⟩
  have h0' := of_decide_eq_true h0
  refine (Ck _ hs _).bnd fun k hk => rm.bnd fun _ _ => (AT.getI hk.1 (by have := hk.2.1; simp only [AC] at this h0'; omega)).bnd fun y hy => ?_
  have hys := Cp A0.sz hy.1
  have hyl : 1 ≤ x.Kids.length := List.length_pos_of_mem hy.1
  exact (ih y hy.1 _ _ hk.2.2 (by simp only [List.length_append, List.length_singleton]; omega)).mono fun r hr => ⟨by have := hr.1; simp only [List.length_append, List.length_singleton] at this; omega, hr.2⟩
 rw [Gf]
 exact (key n [] c h (by simpa using hn)).mono fun r hr => ⟨by have := hr.1; simpa using this, hr.2⟩
end TT
