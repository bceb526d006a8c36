import Derived.Test.YtaeegkjcjlnanaaGreatDoorTP3Copy
import Derived.Test.YtaeegkjcjlnanaaGreatDoorTP3Cur
set_option linter.unusedVariables false
set_option linter.unusedSimpArgs false
namespace TT
open Go
def wt (l : List A0) : Nat := l.length + szs A0.sz l
theorem DY (x : A0) (l : List A0) : wt (x :: l) = 1 + x.sz + wt l := by rw [wt, wt, CY, List.length_cons]; omega
theorem Cc : ∀ a b : List A0, wt (a ++ b) = wt a + wt b
 | [], b => by rw [List.nil_append]; show _ = 0 + _; omega
 | x :: a, b => by rw [List.cons_append, DY, DY, Cc a b]; omega
theorem MN (l : List A0) : l.length ≤ wt l := Nat.le_add_right _ _
def Vo (y : A0) (s : ByteArray) : A0 := A0.mk y.Kind y.Pre y.Local y.Uri y.Decls y.Attrs y.Kids s
theorem Vp (x : A0) : x.Text.size ≤ x.sz := by rw [A0.sz_eq x]; omega
theorem kG (y x : A0) : (Vo y (y.Text ++ x.Text)).sz ≤ y.sz + x.sz := by
 have := Vp x
 rw [A0.sz_eq (Vo _ _), A0.sz_eq y]
 simp only [Vo, ByteArray.size_append]
 omega
def O7 (out : List A0) (x : A0) : List A0 :=
 if x.Kind = 2 then (if x.Text = ⟨#[]⟩ then out else match out.getLast? with
  | some y => if y.Kind = 2 then out.dropLast ++ [Vo y (y.Text ++ x.Text)] else out ++ [x]
  | none => out ++ [x]) else out ++ [x]
theorem kH (out : List A0) (x : A0) : wt (O7 out x) ≤ wt out + (1 + x.sz) := by
 have h1 : wt (out ++ [x]) = wt out + (1 + x.sz) := by rw [Cc, DY]; rfl
 unfold O7
 split
 ·split
  ·omega
  ·rcases List.eq_nil_or_concat out with rfl | ⟨o, y, rfl⟩
   ·exact Nat.le_of_eq h1
   ·rw [List.concat_eq_append] at h1 ⊢
    simp only [List.getLast?_concat, List.dropLast_concat]
    split
    ·rw [Cc, Cc, DY, DY]
     have := kG y x
     omega
    ·exact Nat.le_of_eq h1
 ·exact Nat.le_of_eq h1
theorem Z0 {o : List A0} {y : A0} (h : o.length ≤ 4000000) : BE (A8 (o ++ [y])) 1 = (o.length : Int) := by
 rw [Bw (by simp only [A8, List.length_append, List.length_singleton]; omega) (by simp only [A8, List.length_append, List.length_singleton]; omega)]
 simp only [A8, List.length_append, List.length_singleton]; omega
theorem kI (o : List A0) (y z : A0) : (o ++ [y]).set (Int.toNat (o.length : Int)) z = o ++ [z] := by simp
theorem nd {x y : ByteArray} (h : x.size + y.size ≤ 4000000) : Y1 x y = some (x ++ y) := by unfold Y1; rw [if_pos (by omega)]
theorem xm {x y : ByteArray} (h : x ≠ y) : Cu x y = false := by
 cases e : Cu x y with
 | false => rfl
 | true => exact absurd (SW.1 e) h
section
variable (l : List A0) (hl : l.length ≤ 4000000)
include hl
theorem YV {pre rest out : List A0} {x : A0} (hp : pre ++ x :: rest = l) (hw : wt out + (1 + x.sz) ≤ 1048576) : Bi l out pre.length = Bi l (O7 out x) ((pre ++ [x]).length : Nat) := by
 have hol := MN out
 have hcp := KY x (by omega)
 have hr : room (out.length + 1) 144 = some () := DX (by omega) (by omega) (by omega)
 have hx := Vp x
 rw [Bi, EC hp, Bb hp, Cw hp (by rw [B9]; omega)]
 simp only [if_true, A3]
 have app : Dy l out pre.length false x = Bi l (out ++ [x]) ((pre ++ [x]).length : Nat) := by
  rw [Dy, hcp, hr, Cw hp (by rw [B9]; omega)]; rfl
 unfold O7
 by_cases h2 : x.Kind = 2
 ·rw [G9 h2, if_pos h2]
  simp only [if_true]
  by_cases h3 : x.Text = ⟨#[]⟩
  ·rw [SW.2 h3, if_pos h3]; rfl
  ·rw [xm h3, if_neg h3]
   simp only [Bool.false_eq_true, if_false]
   rcases List.eq_nil_or_concat out with rfl | ⟨o, y, rfl⟩
   ·rw [Pg (by simp [A8])]
    exact app
   ·rw [List.concat_eq_append] at app hr hw hol ⊢
    rw [Cc, DY] at hw
    have hy := Vp y
    have hol' : o.length ≤ 4000000 := by rw [List.length_append] at hol; have := MN o; omega
    rw [Lp (by simp only [A8, List.length_append, List.length_singleton]; omega), Z0 hol']
    simp only [if_true, Bb (show o ++ y :: [] = o ++ [y] from rfl), A3, List.getLast?_concat, List.dropLast_concat]
    by_cases h4 : y.Kind = 2
    ·rw [G9 h4, if_pos h4, Dy, Z0 hol']
     simp only [if_true, Bb (show o ++ y :: [] = o ++ [y] from rfl), A3, nd (show y.Text.size + x.Text.size ≤ 4000000 by omega), kI, Cw hp (show l.length ≤ maxLen by rw [B9]; omega)]
     rfl
    ·rw [DJ h4, if_neg h4]; exact app
 ·rw [DJ h2, if_neg h2]
  simp only [Bool.false_eq_true, if_false, hcp, hr, A3]
end
def Fz (l : List A0) : List A0 := l.foldl O7 []
theorem Xp (l : List A0) (hl : l.length ≤ 4000000) : ∀ rest pre out : List A0, pre ++ rest = l → wt out + wt rest ≤ 1048576 →
  Bi l out pre.length = some (rest.foldl O7 out) ∧ wt (rest.foldl O7 out) ≤ wt out + wt rest
 | [], pre, out, hp, hw => ⟨by rw [Bi, FU hp]; rfl, Nat.le_add_right _ _⟩
 | x :: rest, pre, out, hp, hw => by
  rw [DY] at hw ⊢
  have h1 := kH out x
  rw [YV l hl hp (by omega)]
  obtain ⟨g1, g3⟩ := Xp l hl rest (pre ++ [x]) (O7 out x) (Ej hp) (by omega)
  exact ⟨g1, by rw [List.foldl_cons]; omega⟩
theorem aX (l : List A0) (h : wt l ≤ 1048576) : Fj l = some (Fz l) ∧ wt (Fz l) ≤ wt l := by
 have := MN l
 obtain ⟨g1, g3⟩ := Xp l (by omega) l [] [] rfl (by show 0 + _ ≤ _; omega)
 exact ⟨by rw [Fj]; exact g1, by have : wt [] = 0 := rfl; rw [this, Nat.zero_add] at g3; exact g3⟩
end TT
namespace TT
open Go
structure Dok (l : List A1) (n : Nat) : Prop where
 len : l.length ≤ n
 each : ∀ d ∈ l, d.Pre.size ≤ 1 ∧ d.Uri.size ≤ 5
theorem Dok.push {l : List A1} {n : Nat} (h : Dok l n) {d : A1} (hd : d.Pre.size ≤ 1 ∧ d.Uri.size ≤ 5) : Dok (l ++ [d]) (n + 1) :=
 ⟨by have := h.len; simp; omega, fun x hx => by rcases List.mem_append.1 hx with hx | hx; exact h.each x hx; simp at hx; rw [hx]; exact hd⟩
theorem Dok.le {l : List A1} {n m : Nat} (h : Dok l n) (hm : n ≤ m) : Dok l m := ⟨Nat.le_trans h.len hm, h.each⟩
theorem Dok.sz {l : List A1} {n : Nat} (h : Dok l n) : szs A1.sz l ≤ 6 * l.length := by
 have : ∀ l : List A1, (∀ d ∈ l, d.Pre.size ≤ 1 ∧ d.Uri.size ≤ 5) → szs A1.sz l ≤ 6 * l.length := by
  intro l
  induction l with
  | nil => intro _; exact Nat.le_refl _
  | cons x l ih =>
   intro h
   have h1 := h x (List.mem_cons_self ..)
   have h2 := ih fun d hd => h d (List.mem_cons_of_mem _ hd)
   rw [CY, A1.sz_eq, List.length_cons]; omega
 exact this l h.each
theorem DE {l : List ByteArray} {n : Nat} {x : ByteArray} (h : x ∈ l) (hl : ∀ y ∈ l, y.size ≤ n) : x.size ≤ n := hl x h
theorem ed (c : A2) (h : FV c) : AQ (KW c) fun r => r.1.size ≤ 5 ∧ FV r.2 := by
 rw [KW]
 exact (As c h _ (by decide)).bnd fun r hr => AQ.ret ⟨DE hr.1 (by decide), hr.2⟩
theorem UW (c : A2) (h : FV c) : AQ (GP c) fun r => (r.1.Pre.size ≤ 1 ∧ r.1.Uri.size ≤ 5) ∧ FV r.2 := by
 rw [GP]
 refine (As c h _ (by decide)).bnd fun r hr => (ed _ hr.2).bnd fun s hs => ?_
 have hp : r.1.size ≤ 1 := DE hr.1 (by decide)
 exact AQ.ite (fun _ => (E9 _ hs.2 _).bnd fun t ht => AQ.ite (fun _ => AQ.ret ⟨⟨hp, Nat.zero_le _⟩, ht⟩) fun _ => AQ.ret ⟨⟨hp, hs.1⟩, ht⟩) fun _ => AQ.ret ⟨⟨hp, hs.1⟩, hs.2⟩
theorem ef {α : Type} {l : List α} (h : Al (A8 l) 0 = false) (hl : l.length ≤ 4000000) : AG (getI l (BE (A8 l) 1)) := by
 have hn : (l.length : Int) ≠ 0 := fun e => by rw [G9 (show A8 l = 0 from e)] at h; cases h
 rw [Bw (by simp only [A8]; omega) (by simp only [A8]; omega)]
 exact (AQ.getI (by simp only [A8]; omega) (by simp only [A8]; omega)).ends
theorem kJ : ∀ (m : Nat) (l : List A1) (c : A2) (n : Nat), n + m ≤ 200 → FV c → Dok l n → AQ (Be l (m : Nat) c) fun r => Dok r.1 (n + m) ∧ FV r.2 := by
 intro m
 induction m with
 | zero => intro l c n hn hc hl; rw [Be, Pg (by omega)]; exact AQ.ret ⟨hl, hc⟩
 | succ m ih =>
  intro l c n hn hc hl
  have hll := hl.len
  rw [Be, Lp (by omega), show BE ((m + 1 : Nat) : Int) 1 = (m : Int) by rw [Bw (by omega) (by omega)]; omega]
  simp only [if_true]
  refine (UW c hc).bnd fun r hr => ?_
  have a : AQ (Be (l ++ [r.1]) (m : Nat) r.2) fun q => Dok q.1 (n + (m + 1)) ∧ FV q.2 := (ih _ _ (n + 1) (by omega) hr.2 (hl.push hr.1)).mono fun q hq => ⟨hq.1.le (by omega), hq.2⟩
  have b : AQ (Be l (m : Nat) r.2) fun q => Dok q.1 (n + (m + 1)) ∧ FV q.2 := (ih _ _ n (by omega) hr.2 hl).mono fun q hq => ⟨hq.1.le (by omega), hq.2⟩
  have rm : AQ (room (l.length + 1) 32) fun _ => True := AQ.room (by omega)
  exact AQ.ite (fun _ => rm.bnd fun _ _ => a) fun h0 => (ef h0 (by omega)).tot.bnd fun _ _ => AQ.ite (fun _ => rm.bnd fun _ _ => a) fun _ => b
theorem Pm {a n : Int} (h0 : 0 ≤ a) (h : a < n ∨ a = 0) (hn : 0 < n) : ∃ m : Nat, a = m ∧ (m : Int) < n := ⟨a.toNat, by omega, by omega⟩
theorem aY (c : A2) (h : FV c) : AQ (IB c) fun r => Dok r.1 3 ∧ FV r.2 := by
 rw [IB]
 refine (C1 c h 4).bnd fun r hr => ?_
 obtain ⟨m, e, hm⟩ := Pm hr.1 hr.2.1 (by omega)
 rw [e]
 exact (kJ m [] r.2 0 (by omega) hr.2.2 ⟨Nat.le_refl _, fun d hd => by cases hd⟩).mono fun q hq => ⟨hq.1.le (by omega), hq.2⟩
theorem pZ (c : A2) (h : FV c) : AQ (Nf c) fun r => r.1.size ≤ 5 ∧ FV r.2 := by
 rw [Nf]
 exact (As c h _ (by decide)).bnd fun r hr => AQ.ret ⟨DE hr.1 (by decide), hr.2⟩
structure kK (r3 : List A1) (k : Nat) : Prop where
 dok : Dok r3 k
 few : k ≤ 100000
theorem kK.space {r3 : List A1} {k : Nat} (h : kK r3 k) (p : ByteArray) : AQ (Bn r3 p) fun r => r.1.size ≤ 5 :=
 eZ r3 p (by have := h.dok.len; have := h.few; omega) 5 fun d hd => (h.dok.each d hd).2
def Aok (l : List A4) (n : Nat) : Prop := l.length ≤ n ∧ ∀ a ∈ l, a.sz ≤ 20
theorem Aok.push {l : List A4} {n : Nat} (h : Aok l n) {a : A4} (ha : a.sz ≤ 20) : Aok (l ++ [a]) (n + 1) :=
 ⟨by have := h.1; simp; omega, fun x hx => by rcases List.mem_append.1 hx with hx | hx; exact h.2 x hx; simp at hx; rw [hx]; exact ha⟩
theorem Aok.szs {l : List A4} {n : Nat} (h : Aok l n) : szs A4.sz l ≤ 20 * l.length := by
 have : ∀ l : List A4, (∀ d ∈ l, d.sz ≤ 20) → TT.szs A4.sz l ≤ 20 * l.length := by
  intro l
  induction l with
  | nil => intro _; exact Nat.le_refl _
  | cons x l ih =>
   intro h
   have h1 := h x (List.mem_cons_self ..)
   have h2 := ih fun d hd => h d (List.mem_cons_of_mem _ hd)
   rw [CY, List.length_cons]; omega
 exact this l h.2
def Eok (m : Nat) (x : A0 × A2 × Int) : Prop := FV x.2.1 ∧ ∃ k : Nat, x.2.2 = (k : Int) ∧ k ≤ m ∧ x.1.sz + 1 + 200 * k ≤ 200 * (m + 1)
section
variable {in1 r3 : List A1} {k : Nat} (he : kK r3 k)
include he
theorem xD (m : Nat) (hm : m ≤ 1000) (ih : ∀ m', m' < m → ∀ (c : A2) (r3 : List A1) (k : Nat), kK r3 k → k + 3 * (m' + 1) ≤ 100000 → FV c → AQ (EI c r3 (m' : Nat)) (Eok m')) (hk : k + 3 * m ≤ 100000)
  (nPre : ByteArray) (r : ByteArray × A2) (u : ByteArray) (nD : List A1) (nA : List A4) (h1 : nPre.size ≤ 1) (h2 : r.1.size ≤ 4) (h3 : u.size ≤ 5) (h4 : Dok nD 3) (h5 : Aok nA 2) :
  ∀ (i m1 : Nat) (c : A2) (ks : List A0), i ≤ 10 → m1 ≤ m → FV c → wt ks + 200 * m1 ≤ 200 * m → AQ (CP r3 (i : Nat) c (m1 : Nat) nPre r u nD nA ks) (Eok m) := by
 have fin : ∀ (m1 : Nat) (c : A2) (ks : List A0), m1 ≤ m → FV c → wt ks + 200 * m1 ≤ 200 * m → AQ (Fj ks >>= fun q => some ((A0.mk 1 nPre r.1 u nD nA q (⟨#[]⟩)), c, (m1 : Int))) (Eok m) := by
  intro m1 c ks hm1 hc hw
  obtain ⟨g1, g2⟩ := aX ks (by omega)
  rw [g1]
  refine AQ.ret ⟨hc, m1, rfl, hm1, ?_⟩
  have d1 := h4.sz; have d2 := h4.len; have a1 := h5.szs; have a2 := h5.1
  have hwt : wt (Fz ks) = (Fz ks).length + szs A0.sz (Fz ks) := rfl
  rw [A0.sz_eq]
  show nPre.size + (r.1.size + (u.size + ((nD.length + szs A1.sz nD) + ((nA.length + szs A4.sz nA) + (((Fz ks).length + szs A0.sz (Fz ks)) + 0))))) + 1 + 200 * m1 ≤ _
  omega
 intro i
 induction i with
 | zero =>
  intro m1 c ks _ hm1 hc hw
  rw [CP, Pg (by omega)]
  exact fin m1 c ks hm1 hc hw
 | succ i ihi =>
  intro m1 c ks hi hm1 hc hw
  have hlen := MN ks
  rw [CP, Lp (by omega)]
  simp only [if_true]
  by_cases h0 : m1 = 0
  ·rw [Pg (by omega)]
   exact fin m1 c ks hm1 hc hw
  ·rw [Lp (by omega)]
   simp only [if_true]
   have e1 : BE ((i + 1 : Nat) : Int) 1 = (i : Int) := by rw [Bw (by omega) (by omega)]; omega
   have e2 : BE (m1 : Int) 1 = ((m1 - 1 : Nat) : Int) := by rw [Bw (by omega) (by omega)]; omega
   have rm : AQ (room (ks.length + 1) 144) fun _ => True := AQ.room (by omega)
   have leaf : ∀ (c' : A2) (x : A0), FV c' → x.sz ≤ 20 → AQ (CP r3 (i : Nat) c' ((m1 - 1 : Nat) : Int) nPre r u nD nA (ks ++ [x])) (Eok m) := fun c' x hc' hx =>
    ihi (m1 - 1) c' _ (by omega) (by omega) hc' (by rw [Cc, DY]; show _ + (1 + x.sz + 0) + _ ≤ _; omega)
   have j81 : ∀ (q : Int × A2) (b : Bool), FV q.2 → AQ (HJ r3 ((i + 1 : Nat) : Int) q b (m1 : Int) nPre r u nD nA ks) (Eok m) := fun q b hq => by
    rw [HJ, e1, e2]
    refine AQ.ite (fun _ => (As _ hq _ (by decide)).bnd fun s hs => rm.bnd fun _ _ => leaf _ _ hs.2 ?_) fun _ => AQ.ite (fun _ => (As _ hq _ (by decide)).bnd fun s hs => rm.bnd fun _ _ => leaf _ _ hs.2 ?_) fun _ => AQ.ite (fun _ => (As _ hq _ (by decide)).bnd fun s hs => rm.bnd fun _ _ => leaf _ _ hs.2 ?_) fun _ => ?_
    ·have := DE (n := 5) hs.1 (by decide); rw [A0.sz_eq]; show 0 + (0 + (0 + ((0 + 0) + ((0 + 0) + ((0 + 0) + s.1.size))))) ≤ _; omega
    ·have := DE (n := 5) hs.1 (by decide); rw [A0.sz_eq]; show 0 + (0 + (0 + ((0 + 0) + ((0 + 0) + ((0 + 0) + s.1.size))))) ≤ _; omega
    ·have := DE (n := 5) hs.1 (by decide); rw [A0.sz_eq]; show 0 + (1 + (0 + ((0 + 0) + ((0 + 0) + ((0 + 0) + s.1.size))))) ≤ _; omega
    ·refine (ih (m1 - 1) (by omega) _ r3 k he (by omega) hq).bnd fun x hx => rm.bnd fun _ _ => ?_
     obtain ⟨x1, k', x2, x3, x4⟩ := hx
     rw [x2]
     exact ihi k' _ _ (by omega) (by omega) x1 (by rw [Cc, DY]; show _ + (1 + x.1.sz + 0) + _ ≤ _; omega)
   exact (C1 c hc 6).bnd fun q hq => AQ.ite (fun _ => j81 _ _ hq.2.2) fun _ => j81 _ _ hq.2.2
theorem xE (m : Nat) (hm : m ≤ 1000) (ih : ∀ m', m' < m → ∀ (c : A2) (r3 : List A1) (k : Nat), kK r3 k → k + 3 * (m' + 1) ≤ 100000 → FV c → AQ (EI c r3 (m' : Nat)) (Eok m')) (hk : k + 3 * m ≤ 100000)
  (nPre : ByteArray) (r : ByteArray × A2) (u : ByteArray) (nD : List A1) (h1 : nPre.size ≤ 1) (h2 : r.1.size ≤ 4) (h3 : u.size ≤ 5) (h4 : Dok nD 3) :
  ∀ (i n : Nat) (c : A2) (nA : List A4), n + i ≤ 2 → FV c → Aok nA n → AQ (Dc r3 (i : Nat) c (m : Nat) nPre r u nD nA) (Eok m) := by
 intro i
 induction i with
 | zero =>
  intro n c nA hn hc hA
  rw [Dc, Pg (by omega)]
  simp only [Bool.false_eq_true, if_false]
  refine (C1 c hc 4).bnd fun q hq => ?_
  obtain ⟨i, e, hi⟩ := Pm hq.1 hq.2.1 (by omega)
  rw [e]
  exact xD he m hm ih hk nPre r u nD nA h1 h2 h3 h4 ⟨by have := hA.1; omega, hA.2⟩ i m _ [] (by omega) (Nat.le_refl _) hq.2.2 (by show 0 + _ ≤ _; omega)
 | succ i ihi =>
  intro n c nA hn hc hA
  have e1 : BE ((i + 1 : Nat) : Int) 1 = (i : Int) := by rw [Bw (by omega) (by omega)]; omega
  rw [Dc, Lp (by omega)]
  simp only [if_true]
  have hlA := hA.1
  have rm : AQ (room (nA.length + 1) 64) fun _ => True := AQ.room (by omega)
  have j49 : ∀ (q : ByteArray × A2) (a : A4), FV q.2 → a.sz ≤ 20 → AQ (Fu r3 ((i + 1 : Nat) : Int) q (m : Nat) nPre r u nD nA a) (Eok m) := fun q a hq ha => by
   have x1 := ihi (n + 1) _ _ (by omega) hq (hA.push ha)
   have x2 := ihi n _ _ (by omega) hq hA
   rw [Fu, e1]
   exact AQ.ite (fun _ => rm.bnd fun _ _ => x1) fun h0 => (ef h0 (by omega)).tot.bnd fun _ _ => (eY _ _).tot.bnd fun _ _ => AQ.ite (fun _ => rm.bnd fun _ _ => x1) fun _ => x2
  refine (As c hc _ (by decide)).bnd fun a ha => (pZ _ ha.2).bnd fun v hv => (As _ hv.2 _ (by decide)).bnd fun p hp => (he.space _).bnd fun w hw => ?_
  have s1 := DE (n := 2) ha.1 (by decide)
  have s2 := DE (n := 1) hp.1 (by decide)
  have s3 := hv.1
  refine AQ.ite (fun _ => AQ.ite (fun _ => j49 _ _ hp.2 ?_) fun _ => j49 _ _ hp.2 ?_) fun _ => j49 _ _ hp.2 ?_
  ·rw [A4.sz_eq]; show p.1.size + (a.1.size + (w.1.size + v.1.size)) ≤ _; omega
  ·rw [A4.sz_eq]; show 0 + (a.1.size + (0 + v.1.size)) ≤ _; omega
  ·rw [A4.sz_eq]; show 0 + (a.1.size + (0 + v.1.size)) ≤ _; omega
end
theorem kL : ∀ (m : Nat), m ≤ 1000 → ∀ (c : A2) (r3 : List A1) (k : Nat), kK r3 k → k + 3 * (m + 1) ≤ 100000 → FV c → AQ (EI c r3 (m : Nat)) (Eok m) := by
 intro m
 induction m using Nat.strongRecOn with
 | _ m ih =>
  intro hm c in1 k he hk hc
  have ih' : ∀ m', m' < m → ∀ (c : A2) (r3 : List A1) (k : Nat), kK r3 k → k + 3 * (m' + 1) ≤ 100000 → FV c → AQ (EI c r3 (m' : Nat)) (Eok m') := fun m' h => ih m' h (by omega)
  rw [EI]
  refine (As c hc _ (by decide)).bnd fun r hr => ?_
  have hr4 : r.1.size ≤ 4 := DE hr.1 (by decide)
  have j4 : ∀ (c1 : A2) (nD : List A1), FV c1 → Dok nD 3 → AQ (Jf in1 c1 (m : Nat) r nD) (Eok m) := fun c1 nD hc1 hD => by
   have hl := he.dok.len; have hl2 := hD.len; have hf := he.few
   rw [Jf, kE _ _ (by omega)]
   have he2 : kK (in1 ++ nD) (k + 3) := ⟨⟨by rw [List.length_append]; omega, fun d hd => by rcases List.mem_append.1 hd with h | h; exact he.dok.each d h; exact hD.each d h⟩, by omega⟩
   have j20 : ∀ (u : ByteArray) (c2 : A2) (p : ByteArray), FV c2 → u.size ≤ 5 → p.size ≤ 1 → AQ (HH (in1 ++ nD) u c2 (m : Nat) p r nD) (Eok m) := fun u c2 p hc2 hu hp => by
    rw [HH]
    refine (C1 c2 hc2 3).bnd fun q hq => ?_
    obtain ⟨i, e, hi⟩ := Pm hq.1 hq.2.1 (by omega)
    rw [e]
    exact xE he2 m hm ih' (by omega) p r u nD hp hr4 hu hD i 0 _ [] (by omega) hq.2.2 ⟨Nat.le_refl _, fun d hd => by cases hd⟩
   have j12 : ∀ (c2 : A2) (p : ByteArray), FV c2 → p.size ≤ 1 → AQ (HG (in1 ++ nD) c2 (m : Nat) p r nD) (Eok m) := fun c2 p hc2 hp => by
    rw [HG]
    exact (he2.space _).bnd fun w hw => AQ.ite (fun _ => j20 _ _ _ hc2 hw hp) fun _ => (he2.space _).bnd fun w hw => j20 _ _ _ hc2 hw (Nat.zero_le _)
   rw [A3]
   exact (E9 _ hc1 _).bnd fun q hq => AQ.ite (fun _ => (As _ hq _ (by decide)).bnd fun s hs => j12 _ _ hs.2 (DE hs.1 (by decide))) fun _ => j12 _ _ hq (Nat.zero_le _)
  exact (E9 _ hr.2 _).bnd fun q hq => AQ.ite (fun _ => (aY _ hq).bnd fun d hd => j4 _ _ hd.2 hd.1) fun _ => j4 _ _ hq ⟨Nat.zero_le _, fun d hd => by cases hd⟩
end TT
namespace TT
open Go
theorem xF : (A0.mk 3 (⟨#[]⟩) (⟨#[]⟩) (⟨#[]⟩) [] [] [] (⟨#[104]⟩)).sz = 1 := by rw [A0.sz_eq]; rfl
theorem xG : (A0.mk 4 (⟨#[]⟩) (⟨#[116]⟩) (⟨#[]⟩) [] [] [] (⟨#[101, 110, 100]⟩)).sz = 4 := by rw [A0.sz_eq]; rfl
theorem xH : (A0.mk 0 (⟨#[]⟩) (⟨#[]⟩) (⟨#[]⟩) [] [] [(A0.mk 1 (⟨#[]⟩) (⟨#[97]⟩) (⟨#[]⟩) [] [] [] (⟨#[]⟩))] (⟨#[]⟩)).sz = 2 := by rw [A0.sz_eq, CY, A0.sz_eq]; rfl
theorem A00 (ks : List A0) : (A0.mk 0 (⟨#[]⟩) (⟨#[]⟩) (⟨#[]⟩) [] [] ks (⟨#[]⟩)).sz = wt ks := by rw [A0.sz_eq, wt]; show 0 + (0 + (0 + ((0 + 0) + ((0 + 0) + ((ks.length + szs A0.sz ks) + 0))))) = ks.length + szs A0.sz ks; omega
theorem Xq (P : A0 → Prop) (hP : ∀ n, n.sz ≤ 3000 → Bz n = some true → P n) (h0 : P (A0.mk 0 (⟨#[]⟩) (⟨#[]⟩) (⟨#[]⟩) [] [] [(A0.mk 1 (⟨#[]⟩) (⟨#[97]⟩) (⟨#[]⟩) [] [] [] (⟨#[]⟩))] (⟨#[]⟩))) (c : A2) (h : FV c) : AQ (GU c) fun r => r.1.sz ≤ 3000 ∧ FV r.2 ∧ P r.1 := by
 have j16 : ∀ (q : Bool × A2) (ks : List A0), FV q.2 → wt ks ≤ 3000 → AQ (EJ q ks) fun r => r.1.sz ≤ 3000 ∧ FV r.2 ∧ P r.1 := fun q ks hq hk => by
  have e := A00 ks
  rw [EJ]
  obtain ⟨b, eb⟩ := kF (A0.mk 0 (⟨#[]⟩) (⟨#[]⟩) (⟨#[]⟩) [] [] ks (⟨#[]⟩)) (by omega)
  rw [eb]
  exact AQ.ite (fun hb => AQ.ret ⟨Nat.le_trans (Nat.le_of_eq e) hk, hq, hP _ (Nat.le_trans (Nat.le_of_eq e) hk) (by rw [eb, hb])⟩) fun _ => AQ.ret ⟨by show A0.sz _ ≤ _; rw [xH]; omega, hq, h0⟩
 have j6 : ∀ (q : Bool × A2) (p : Int × A2) (m : Nat) (ks : List A0), FV q.2 → p.1 = (m : Int) → m ≤ 7 → wt ks ≤ 10 → AQ (FQ q p ks) fun r => r.1.sz ≤ 3000 ∧ FV r.2 ∧ P r.1 := fun q p m ks hq hp hm hk => by
  have hl := MN ks
  rw [FQ, hp, show AY 3 (m : Int) = ((m + 3 : Nat) : Int) by rw [Af (by omega) (by omega)]; omega]
  refine (kL (m + 3) (by omega) q.2 [] 0 ⟨⟨Nat.le_refl _, fun d hd => by cases hd⟩, by omega⟩ (by omega) hq).bnd fun x hx => ?_
  obtain ⟨x1, k, x2, x3, x4⟩ := hx
  have w1 : wt (ks ++ [x.1]) ≤ 2300 := by rw [Cc, DY]; show _ + (1 + x.1.sz + 0) ≤ _; omega
  have rm1 : AQ (room (ks.length + 1) 144) fun _ => True := AQ.room (by omega)
  have rm2 : AQ (room ((ks ++ [x.1]).length + 1) 144) fun _ => True := AQ.room (by have := MN (ks ++ [x.1]); omega)
  refine rm1.bnd fun _ _ => (E9 _ x1 _).bnd fun s hs => AQ.ite (fun _ => rm2.bnd fun _ _ => j16 _ _ hs ?_) fun _ => j16 _ _ hs (by omega)
  rw [Cc, DY, xG]
  show _ + (1 + 4 + 0) ≤ _
  omega
 rw [GU]
 refine (C1 c h 8).bnd fun p hp => ?_
 obtain ⟨m, e, hm⟩ := Pm hp.1 hp.2.1 (by omega)
 exact (E9 _ hp.2.2 _).bnd fun q hq => AQ.ite (fun _ => (AQ.room (by omega)).bnd fun _ _ => j6 _ _ m _ hq e (by omega) (by rw [List.nil_append, DY, xF]; show 1 + 1 + 0 ≤ _; omega)) fun _ => j6 _ _ m _ hq e (by omega) (by show 0 ≤ _; omega)
theorem mt (c : A2) (h : FV c) : AQ (GU c) fun r => r.1.sz ≤ 3000 ∧ FV r.2 := (Xq (fun _ => True) (fun _ _ _ => trivial) trivial c h).mono fun r hr => ⟨hr.1, hr.2.1⟩
end TT
namespace TT
open Go
theorem Xr (c : A2) (h : FV c) (n : A0) (hn : n.sz ≤ 100000) : AQ (Gu c n) fun r => r.1.length ≤ n.sz + 1 ∧ FV r.2 := by
 have j6 : ∀ (p : List Int) (c : A2), FV c → p.length ≤ 100000 → AQ (EK p c) fun r => r.1.length ≤ p.length + 1 ∧ FV r.2 := fun p c hc hp => by
  have rm : AQ (room (p.length + 1) 8) fun _ => True := AQ.room (by omega)
  rw [EK]
  exact (E9 _ hc _).bnd fun s hs => AQ.ite (fun _ => (Pj _ hs _ (by decide)).bnd fun i hi => rm.bnd fun _ _ => AQ.ret ⟨by simp, hi.2⟩) fun _ => AQ.ret ⟨by show p.length ≤ _; omega, hs⟩
 have key : ∀ x : A0, ∀ (p : List Int) (c : A2), FV c → p.length + x.sz ≤ 100000 → AQ (EL p c x) fun r => r.1.length ≤ p.length + x.sz + 1 ∧ FV r.2 := by
  refine A0.ind' fun x ih p c hc hp => ?_
  have hz := A0.sz_eq x
  have rm : AQ (room (p.length + 1) 8) fun _ => True := AQ.room (by omega)
  rw [EL]
  refine AQ.ite (fun h0 => (E9 _ hc _).bnd fun s hs => AQ.ite (fun _ => (j6 _ _ hs (by omega)).mono fun r hr => ⟨by have := hr.1; omega, hr.2⟩) fun _ => ?_) fun _ => (j6 _ _ hc (by omega)).mono fun r hr => ⟨by have := hr.1; omega, hr.2⟩
  have h0' := of_decide_eq_true h0
  refine (C1 _ hs _).bnd fun k hk => rm.bnd fun _ _ => (AQ.getI hk.1 (by have := hk.2.1; simp only [A8] at this h0'; omega)).bnd fun y hy => ?_
  have hys := CB A0.sz hy.1
  have hyl : 1 ≤ x.Kids.length := List.length_pos_of_mem hy.1
  exact (ih y hy.1 _ _ hk.2.2 (by simp only [List.length_append, List.length_singleton]; omega)).mono fun r hr => ⟨by have := hr.1; simp only [List.length_append, List.length_singleton] at this; omega, hr.2⟩
 rw [Gu]
 exact (key n [] c h (by simpa using hn)).mono fun r hr => ⟨by have := hr.1; simpa using this, hr.2⟩
end TT
namespace TT
open Go
theorem NQ {x y : Option Bool} (h : (x >>= fun r => if r then y else some false) = some true) : x = some true ∧ y = some true := by
 cases x with
 | none => cases h
 | some b =>
  cases b
  ·cases h
  ·exact ⟨rfl, h⟩
def I4 : Bool → List A0 → Bool
 | _, [] => true
 | t, x :: l => (if x.Kind = 2 then !t && !decide (x.Text = ⟨#[]⟩) else true) && I4 (decide (x.Kind = 2)) l
def iG (l : List A0) : Bool := match l.getLast? with
 | some y => decide (y.Kind = 2)
 | none => false
theorem mu (l : List A0) (x : A0) : iG (l ++ [x]) = decide (x.Kind = 2) := by simp [iG]
theorem Xs : ∀ (rest out : List A0), I4 (iG out) rest = true → rest.foldl O7 out = out ++ rest
 | [], out, _ => by simp
 | x :: rest, out, h => by
  rw [I4, Bool.and_eq_true] at h
  obtain ⟨h1, h2⟩ := h
  have e : O7 out x = out ++ [x] := by
   unfold O7
   by_cases hk : x.Kind = 2
   ·rw [if_pos hk] at h1 ⊢
    simp only [Bool.and_eq_true, Bool.not_eq_true', decide_eq_false_iff_not] at h1
    rw [if_neg h1.2]
    have ht := h1.1
    unfold iG at ht
    cases hg : out.getLast? with
    | none => rfl
    | some y =>
     rw [hg] at ht
     simp only [decide_eq_false_iff_not] at ht
     simp only []
     rw [if_neg ht]
   ·rw [if_neg hk]
  rw [List.foldl_cons, e, Xs rest (out ++ [x]) (by rw [mu]; exact h2), List.append_assoc]
  rfl
theorem Vq (l : List A0) (h : I4 false l = true) : Fz l = l := by
 have := Xs l [] h
 simpa [Fz] using this
inductive Qj : A0 → Prop where
 | mk (n : A0) : I4 false n.Kids = true → (∀ k ∈ n.Kids, Qj k) → Qj n
theorem Qj.clean {n : A0} (h : Qj n) : I4 false n.Kids = true := by cases h; assumption
theorem Qj.kid {n k : A0} (h : Qj n) (hk : k ∈ n.Kids) : Qj k := by cases h with | mk _ _ h2 => exact h2 k hk
theorem Qj.bare {n : A0} (h : n.Kids = []) : Qj n := ⟨n, by rw [h]; rfl, fun k hk => by rw [h] at hk; cases hk⟩
theorem aZ (n : A0) (h : By n = some true) (hk : n.Kind ≠ 1) : n.Kids = [] ∧ (n.Kind = 2 → n.Text ≠ ⟨#[]⟩) := by
 rw [By, DJ hk] at h
 simp only [Bool.false_eq_true, if_false] at h
 have bare : ∀ {y : Option Bool}, (De n >>= fun r => if r then y else some false) = some true → n.Kids = [] := fun hh => by
  have hb := (NQ hh).1
  rw [De] at hb
  have len : Al (A8 n.Kids) 0 = true → n.Kids = [] := fun e => List.eq_nil_of_length_eq_zero (by have := LX.1 e; simp only [A8] at this; omega)
  by_cases h1 : Cu n.Pre (⟨#[]⟩) = true <;> simp only [h1, if_true, if_false, Bool.false_eq_true] at hb
  ·by_cases h2 : Cu n.Uri (⟨#[]⟩) = true <;> simp only [h2, if_true, if_false, Bool.false_eq_true] at hb
   ·by_cases h3 : Al (A8 n.Decls) 0 = true <;> simp only [h3, if_true, if_false, Bool.false_eq_true] at hb
    ·by_cases h4 : Al (A8 n.Attrs) 0 = true <;> simp only [h4, if_true, if_false, Bool.false_eq_true] at hb
     ·exact len (by simpa using hb)
     ·simp at hb
    ·simp at hb
   ·simp at hb
  ·simp at hb
 by_cases h2 : n.Kind = 2
 ·rw [G9 h2] at h
  simp only [if_true] at h
  refine ⟨bare h, fun _ e => ?_⟩
  have h' := (NQ h).2
  rw [e] at h'
  by_cases h3 : Cu n.Local (⟨#[]⟩) = true
  ·simp only [h3, if_true, tU, Bool.false_eq_true, if_false] at h'
   simp at h'
  ·simp only [h3, if_false, Bool.false_eq_true] at h'
   simp at h'
 ·refine ⟨?_, fun e => absurd e h2⟩
  rw [DJ h2] at h
  simp only [Bool.false_eq_true, if_false] at h
  by_cases h3 : n.Kind = 3
  ·rw [G9 h3] at h
   simp only [if_true] at h
   exact bare h
  ·rw [DJ h3] at h
   simp only [Bool.false_eq_true, if_false] at h
   by_cases h4 : n.Kind = 4
   ·rw [G9 h4] at h
    simp only [if_true] at h
    exact bare h
   ·rw [DJ h4] at h
    simp at h
def eh (l : List A0) (k : Nat) : Bool := match k with
 | 0 => false
 | k + 1 => match l[k]? with
  | some y => decide (y.Kind = 2)
  | none => false
theorem tZ {l : List A0} {k : Nat} {x : A0} (h : l[k]? = some x) : l.drop k = x :: l.drop (k + 1) := by
 obtain ⟨h1, h2⟩ := List.getElem?_eq_some_iff.1 h
 rw [List.drop_eq_getElem_cons h1, h2]
theorem pb (N : Nat) : ∀ (l : List A0), l.length + szs A0.sz l ≤ N → N ≤ 1048576 → ∀ deep, Ab l deep = some true → I4 false l = true ∧ ∀ k ∈ l, Qj k := by
 induction N using Nat.strongRecOn with
 | _ N ih =>
  intro l hl hN deep h
  rw [Ab] at h
  have key : ∀ (m k : Nat), l.length ≤ k + m → k ≤ l.length → Ah l deep k = some true → I4 (eh l k) (l.drop k) = true ∧ ∀ x ∈ l.drop k, Qj x := by
   intro m
   induction m with
   | zero => intro k h1 h2 _; rw [List.drop_of_length_le (by omega)]; exact ⟨rfl, fun x hx => by cases hx⟩
   | succ m ihm =>
    intro k h1 h2 hF
    by_cases e : k = l.length
    ·rw [List.drop_of_length_le (by omega)]; exact ⟨rfl, fun x hx => by cases hx⟩
    ·obtain ⟨x, hx⟩ : ∃ x, l[k]? = some x := ⟨_, List.getElem?_eq_getElem (by omega)⟩
     have hm := CB A0.sz (Tq hx)
     have hlt : x.Kids.length + szs A0.sz x.Kids < N := by
      have := A0.sz_eq x
      omega
     rw [Ah, X1 hx, Ge hx] at hF
     simp only [if_true, A3] at hF
     obtain ⟨ho, hF⟩ := NQ hF
     have j17 : Aw l deep k x = some true → Qj x ∧ Ah l deep ((k + 1 : Nat) : Int) = some true := fun hj => by
      rw [Aw, Jv (by omega)] at hj
      by_cases hk1 : x.Kind = 1
      ·rw [G9 hk1] at hj
       simp only [if_true] at hj
       by_cases h7 : Al deep 7 = true
       ·rw [h7] at hj; simp at hj
       ·simp only [h7, Bool.false_eq_true, if_false] at hj
        obtain ⟨g1, g2⟩ := NQ hj
        obtain ⟨g3, g4⟩ := ih _ hlt x.Kids (Nat.le_refl _) (by omega) _ g1
        exact ⟨⟨x, g3, g4⟩, g2⟩
      ·rw [DJ hk1] at hj
       simp only [Bool.false_eq_true, if_false] at hj
       exact ⟨Qj.bare (aZ x ho hk1).1, hj⟩
     have fin : (x.Kind = 2 → eh l k = false) → Aw l deep k x = some true → I4 (eh l k) (l.drop k) = true ∧ ∀ y ∈ l.drop k, Qj y := fun hp hj => by
      obtain ⟨g1, g2⟩ := j17 hj
      obtain ⟨g3, g4⟩ := ihm (k + 1) (by omega) (by omega) g2
      rw [tZ hx, I4, Bool.and_eq_true]
      have ep : eh l (k + 1) = decide (x.Kind = 2) := by simp [eh, hx]
      rw [ep] at g3
      refine ⟨⟨?_, g3⟩, fun y hy => ?_⟩
      ·by_cases h2 : x.Kind = 2
       ·rw [if_pos h2, hp h2]
        have := (aZ x ho (by omega)).2 h2
        simp [this]
       ·rw [if_neg h2]
      ·rcases List.mem_cons.1 hy with rfl | hy
       ·exact g1
       ·exact g4 y hy
     by_cases h2 : x.Kind = 2
     ·rw [G9 h2] at hF
      simp only [if_true] at hF
      by_cases h0 : k = 0
      ·subst h0
       exact fin (fun _ => rfl) hF
      ·obtain ⟨k', rfl⟩ : ∃ k', k = k' + 1 := ⟨k - 1, by omega⟩
       obtain ⟨y, hy⟩ : ∃ y, l[k']? = some y := ⟨_, List.getElem?_eq_getElem (by omega)⟩
       rw [Lp (by omega), show BE ((k' + 1 : Nat) : Int) 1 = (k' : Int) by rw [Bw (by omega) (by omega)]; omega, Ge hy] at hF
       simp only [if_true, A3] at hF
       by_cases hy2 : y.Kind = 2
       ·rw [G9 hy2] at hF; simp at hF
       ·rw [DJ hy2] at hF
        simp only [Bool.false_eq_true, if_false] at hF
        exact fin (fun _ => by simp [eh, hy, hy2]) hF
     ·rw [DJ h2] at hF
      simp only [Bool.false_eq_true, if_false] at hF
      exact fin (fun e => absurd e h2) hF
  exact key l.length 0 (by omega) (by omega) h
theorem pc (n : A0) (hs : n.sz ≤ 1048575) (h : Bz n = some true) : Qj n := by
 rw [Bz] at h
 by_cases hk : n.Kind = 0
 ·rw [G9 hk] at h
  simp only [if_true] at h
  obtain ⟨h1, _⟩ := NQ h
  rw [CG] at h1
  obtain ⟨c, ec⟩ := aV n (by omega)
  rw [ec, A3] at h1
  by_cases h60 : NN c 60 = true
  ·rw [h60] at h1; simp at h1
  ·simp only [h60, Bool.false_eq_true, if_false, show SZ n.Kind 0 = false by rw [ml, G9 hk]; rfl] at h1
   have key : ∀ (m k : Nat) (a : Int), n.Kids.length ≤ k + m → k ≤ n.Kids.length → AP a k n = some true → Ab n.Kids 0 = some true := by
    intro m
    have fin : ∀ a : Int, AP a ((n.Kids.length : Nat) : Int) n = some true → Ab n.Kids 0 = some true := fun a hF => by
     rw [AP, Qd] at hF
     simp only [Bool.false_eq_true, if_false] at hF
     by_cases e1 : Al a 1 = true <;> simp only [e1, if_true, if_false, Bool.false_eq_true] at hF
     ·by_cases e2 : Cu n.Pre (⟨#[]⟩) = true <;> simp only [e2, if_true, if_false, Bool.false_eq_true] at hF
      ·by_cases e3 : Cu n.Local (⟨#[]⟩) = true <;> simp only [e3, if_true, if_false, Bool.false_eq_true] at hF
       ·by_cases e4 : Cu n.Uri (⟨#[]⟩) = true <;> simp only [e4, if_true, if_false, Bool.false_eq_true] at hF
        ·by_cases e5 : Cu n.Text (⟨#[]⟩) = true <;> simp only [e5, if_true, if_false, Bool.false_eq_true] at hF
         ·by_cases e6 : Al (A8 n.Decls) 0 = true <;> simp only [e6, if_true, if_false, Bool.false_eq_true] at hF
          ·by_cases e7 : Al (A8 n.Attrs) 0 = true <;> simp only [e7, if_true, if_false, Bool.false_eq_true] at hF
           ·obtain ⟨b, eb⟩ := X2 1048576 n.Kids (by have := A0.sz_eq n; omega) (by omega) 0
            rw [eb] at hF ⊢
            exact hF
           ·simp at hF
          ·simp at hF
         ·simp at hF
        ·simp at hF
       ·simp at hF
      ·simp at hF
     ·simp at hF
    induction m with
    | zero => intro k a h1 h2 hF; rw [show k = n.Kids.length by omega] at hF; exact fin a hF
    | succ m ihm =>
     intro k a h1 h2 hF
     by_cases e : k = n.Kids.length
     ·rw [e] at hF; exact fin a hF
     ·obtain ⟨x, hx⟩ : ∃ x, n.Kids[k]? = some x := ⟨_, List.getElem?_eq_getElem (by omega)⟩
      have hz := A0.sz_eq n
      have j33 : ∀ b : Int, Bk b k n = some true → Ab n.Kids 0 = some true := fun b hb => by
       rw [Bk, Ge hx, Jv (by omega)] at hb
       simp only [A3] at hb
       by_cases e2 : Al x.Kind 2 = true
       ·rw [e2] at hb; simp at hb
       ·simp only [e2, Bool.false_eq_true, if_false] at hb
        exact ihm (k + 1) b (by omega) (by omega) hb
      rw [AP, X1 hx, Ge hx] at hF
      simp only [if_true, A3] at hF
      by_cases e1 : Al x.Kind 1 = true
      ·rw [e1] at hF; exact j33 _ hF
      ·simp only [e1, Bool.false_eq_true, if_false] at hF; exact j33 _ hF
   obtain ⟨g1, g2⟩ := pb 1048576 n.Kids (by have := A0.sz_eq n; omega) (by omega) 0 (key n.Kids.length 0 0 (by omega) (by omega) h1)
   exact ⟨n, g1, g2⟩
 ·rw [DJ hk] at h
  simp at h
end TT
