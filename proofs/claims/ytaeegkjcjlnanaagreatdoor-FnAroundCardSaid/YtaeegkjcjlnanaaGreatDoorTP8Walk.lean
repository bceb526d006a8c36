import Derived.Test.YtaeegkjcjlnanaaGreatDoorTP8Bent
import Derived.Test.YtaeegkjcjlnanaaGreatDoorTP2Has
import Derived.Test.YtaeegkjcjlnanaaGreatDoorTP3Copy
import Derived.Test.YtaeegkjcjlnanaaGreatDoorTP3Same
set_option linter.unusedVariables false
set_option linter.unusedSimpArgs false
namespace TT
open Go
theorem NX (p : List Int) (hp : p.length ≤ 4000000) : D7 p p = some true := by
 rw [D7, P4, if_neg Bool.false_ne_true]
 exact Xx p (fun i => CV p p i) true (fun k x hk ih => by
  rw [CV, V2 hk, Gx hk, Jj (by have := (List.getElem?_eq_some_iff.1 hk).1; omega)]
  simp only [if_true, A5, P4, Bool.false_eq_true, if_false]
  exact ih) (by rw [CV, Q5, if_neg Bool.false_ne_true])
theorem bR (w : AI) (h1 : w.Tre.sz ≤ 1048576) (h2 : w.Path.length ≤ 4000000) : HA w w = some true := by
 rw [HA, TH _ h1]
 simp only [A5, if_true, NX _ h2]
def jJ (w : AI) : Bool := (Fc w.Tre w.Path).2 && PC w.Tre
theorem lL (w : AI) (hs : w.Tre.sz ≤ 1048576) (hp : w.Path.length ≤ 2000000) : GM w = some (jJ w) := by
 obtain ⟨t1, t2⟩ := ZY w.Tre hs
 rw [GM, RI _ _ hs hp, t2, jJ]
 simp only [A5]
 cases (Fc w.Tre w.Path).2 <;> rfl
theorem Zb (w : AI) (hs : w.Tre.sz ≤ 1048576) (hp : w.Path.length ≤ 2000000) : E0 w = some w := by
 rw [E0, Rm _ hs, Bn, Fb (by omega) (by omega) (by omega)]
 simp only [A5]
theorem A09 (w : AI) (path : List Int) (hs : w.Tre.sz ≤ 1048576) (hp : w.Path.length ≤ 2000000) (hq : path.length ≤ 2000000) : UT w path = some (if (Fc w.Tre path).2 && jJ w then (⟨w.Tre, path⟩, true) else (w, false)) := by
 rw [UT, Zb w hs hp, RI _ _ hs hq, lL w hs hp, Bn, Fb (by omega) (by omega) (by omega)]
 simp only [A5]
 cases hn : (Fc w.Tre path).2 <;> cases jJ w <;> rfl
theorem mH (a b : List Int) (ha : a.length ≤ 2000000) (hl : a.length = b.length) : ∀ (ra pa rb pb : List Int), pa ++ ra = a → pb ++ rb = b → pa.length = pb.length → BH a b pa.length = some (decide (ra = rb))
 | [], pa, rb, pb, hpa, hb, he => by
  have : rb = [] := by
   have h1 := congrArg List.length hb; have h2 := congrArg List.length hpa
   simp only [List.length_append, List.length_nil] at h1 h2
   exact List.eq_nil_of_length_eq_zero (by omega)
  rw [BH, Fa hpa, this]; rfl
 | x :: ra, pa, [], pb, hpa, hb, he => by
  have h1 := congrArg List.length hb; have h2 := congrArg List.length hpa
  simp only [List.length_append, List.length_nil, List.length_cons] at h1 h2
  omega
 | x :: ra, pa, y :: rb, pb, hpa, hb, he => by
  have ih := mH a b ha hl ra (pa ++ [x]) rb (pb ++ [y]) (E6 hpa) (E6 hb) (by simp [he])
  have hg := C8 hb
  rw [← he] at hg
  rw [BH, Ec hpa, C8 hpa, hg, DU hpa (by rw [Ba]; omega), ih]
  simp only [if_true, A5]
  by_cases h : x = y
  ·subst h
   rw [P4]
   simp
  ·have : neI x y = true := by rw [Z8, P5 h]; rfl
   rw [this]
   simp [h]
theorem PD : ∀ (p : List Int) {n x : A0}, NV n p = some x → p.length ≤ n.sz
 | [], n, x, h => Nat.zero_le _
 | i :: p, n, x, h => by
  obtain ⟨k, h1, h2⟩ := Option.bind_eq_some_iff.1 h
  have ih := PD p h2
  have hm := ig h1
  have h3 := Cq A0.sz hm
  have h4 : 1 ≤ n.Kids.length := List.length_pos_of_mem hm
  rw [A0.sz_eq n, List.length_cons]
  omega
theorem Zc (a b : List Int) (ha : a.length ≤ 2000000) : Fj a b = some (decide (a = b)) := by
 by_cases hl : a.length = b.length
 ·have h2 := mH a b ha hl a [] b [] rfl rfl rfl
  have h2' : BH a b 0 = _ := h2
  have e : BE (AC a) (AC b) = true := Wu (by simp only [AC, hl])
  rw [Fj, FL, h2', Z8, e]
  rfl
 ·have e : BE (AC a) (AC b) = false := P5 (by simp only [AC]; omega)
  have hd : decide (a = b) = false := decide_eq_false fun h => hl (by rw [h])
  rw [Fj, FL, Z8, e, hd]
  rfl
theorem vn (L : List (List Int)) (w : AI) (k : Nat) (hk : L[k]? = some w.Path) (hL : L.length ≤ 3000000) (hq : ∀ q ∈ L, q.length ≤ 2000000) (hf : ∀ j q, j < k → L[j]? = some q → q ≠ w.Path) : Bx L w = some ((k : Int), w) := by
 have key : ∀ (m j : Nat), j + m = k → AV L (j : Nat) w = some ((k : Int), w) := by
  intro m
  induction m with
  | zero =>
   intro j hj
   rw [show j = k by omega, AV, V2 hk, Gx hk]
   simp only [if_true, A5, JZ, Zc _ _ (hq _ (List.mem_of_getElem? hk)), decide_true]
  | succ m ih =>
   intro j hj
   have hlt : j < L.length := by have := (List.getElem?_eq_some_iff.1 hk).1; omega
   have hj' : L[j]? = some L[j] := List.getElem?_eq_getElem hlt
   rw [AV, V2 hj', Gx hj']
   simp only [if_true, A5, JZ, Zc _ _ (hq _ (List.getElem_mem hlt)), decide_eq_false (hf j _ (by omega) hj'), Bool.false_eq_true, if_false]
   rw [Jj (by omega)]
   exact ih (j + 1) (by omega)
 exact key k 0 (by omega)
theorem lM (t : A0) (ht : t.sz ≤ 1000000) (hB : PC t = true) (k : Nat) (p : List Int) (hk : (NY t [])[k]? = some p) (d : Int) (hd : d = 1 ∨ d = -1) :
  KH ⟨t, p⟩ d = some (match (if 0 ≤ (k : Int) + d then (NY t [])[((k : Int) + d).toNat]? else none) with | some q => (⟨t, q⟩, true) | none => (⟨t, p⟩, false)) := by
 have hlen := Xy t []
 have hpre := ZZ t
 have hat : ∀ (j : Nat) q, (NY t [])[j]? = some q → ∃ x, NV t q = some x := by
  intro j q hj
  have hlt := (List.getElem?_eq_some_iff.1 hj).1
  obtain ⟨x, hx⟩ : ∃ x, (bP t)[j]? = some x := ⟨_, List.getElem?_eq_getElem (by omega)⟩
  obtain ⟨p', e1, e2⟩ := sN t [] j q x hj hx
  rw [List.nil_append] at e1
  subst e1
  exact ⟨x, e2⟩
 have hql : ∀ q ∈ NY t [], q.length ≤ 2000000 := by
  intro q hq
  obtain ⟨j, hj⟩ := List.mem_iff_getElem?.1 hq
  obtain ⟨x, hx⟩ := hat j q hj
  have := PD q hx
  omega
 have hp := hql p (List.mem_of_getElem? hk)
 have hwok : jJ ⟨t, p⟩ = true := by
  obtain ⟨x, hx⟩ := hat k p hk
  rw [jJ]
  show ((Fc t p).2 && PC t) = true
  rw [Fc, hx, hB]; rfl
 have hlt := (List.getElem?_eq_some_iff.1 hk).1
 have hnd := oK t []
 have hidx := vn (NY t []) ⟨t, p⟩ k hk (by omega) hql (fun j q hj hq e => by
  obtain ⟨a1, a2⟩ := List.getElem?_eq_some_iff.1 hk
  obtain ⟨b1, b2⟩ := List.getElem?_eq_some_iff.1 hq
  exact (List.pairwise_iff_getElem.1 hnd) j k b1 a1 hj (b2.trans (e.trans a2.symm)))
 have hin : Fw ((k : Int) + d) 0 (Bz (AC (NY t [])) 1) = some (getI (NY t []) ((k : Int) + d)).isSome := ly (by omega)
 rw [KH, lL _ (by show t.sz ≤ _; omega) hp, hwok, dG t (by omega)]
 simp only [A5, if_true, hidx]
 have ed : Ac (k : Int) d = (k : Int) + d := by rcases hd with h | h <;> subst h <;> exact Az (by omega) (by omega)
 rw [ed, hin]
 simp only [A5]
 by_cases h0 : 0 ≤ (k : Int) + d
 ·rw [if_pos h0]
  have hg : getI (NY t []) ((k : Int) + d) = (NY t [])[((k : Int) + d).toNat]? := by unfold getI; rw [if_pos h0]
  rw [hg]
  cases hq : (NY t [])[((k : Int) + d).toNat]? with
  | none =>
   simp only [Option.isSome_none, Bool.false_eq_true, if_false, Zb ⟨t, p⟩ (show t.sz ≤ _ by omega) hp, A5]
  | some q =>
   obtain ⟨x, hx⟩ := hat _ q hq
   have hqq := hql q (List.mem_of_getElem? hq)
   simp only [Option.isSome_some, if_true, A5, A09 ⟨t, p⟩ q (show t.sz ≤ _ by omega) hp hqq, hwok]
   have e : (Fc t q).2 = true := by rw [Fc, hx]
   rw [e]
   rfl
 ·rw [if_neg h0]
  have hg : getI (NY t []) ((k : Int) + d) = none := by unfold getI; rw [if_neg h0]
  rw [hg]
  simp only [Option.isSome_none, Bool.false_eq_true, if_false, Zb ⟨t, p⟩ (show t.sz ≤ _ by omega) hp, A5]
end TT
namespace TT
open Go
abbrev nA : A0 := A0.mk 1 (⟨#[]⟩) (⟨#[97]⟩) (⟨#[]⟩) [] [] [] (⟨#[]⟩)
abbrev nD : A0 := A0.mk 0 (⟨#[]⟩) (⟨#[]⟩) (⟨#[]⟩) [] [] [nA] (⟨#[]⟩)
theorem zp : Aw nA = some 1 := by rw [Aw, Ad]; rfl
theorem zq : Aw nD = some 2 := by
 rw [Aw, Ad]
 show (Aw nA >>= fun r1 => Ad (Ac 1 r1) 1 nD) = _
 rw [zp]
 show Ad 2 1 nD = _
 rw [Ad]; rfl
theorem wF : CT 97 = some true := by
 rw [CT, D6]
 have e : ∀ l : List Int, l = [65, 90, 95, 95, 97, 122, 192, 214, 216, 246, 248, 767, 880, 893, 895, 8191, 8204, 8205, 8304, 8591, 11264, 12271, 12289, 55295, 63744, 64975, 65008, 65533, 65536, 983039] → AW 97 l 0 = some true := by
  intro l hl
  rw [AW, hl]
  show AW 97 _ 2 = _
  rw [AW]
  show AW 97 _ 4 = _
  rw [AW]
  rfl
 rw [e _ rfl]; rfl
theorem zr : D9 97 = some true := by
 rw [D9, wF]; rfl
theorem zt : B6 ⟨#[97]⟩ = some true := by
 rw [B6]
 show AQ ⟨#[97]⟩ 0 = _
 rw [AQ]
 have e : Da ⟨#[97]⟩ 0 = some (97, 1, true) := by rw [Da]; rfl
 rw [e]
 show (CT 97 >>= fun r6 => if r6 then D9 97 >>= fun r7 => if r7 then AQ ⟨#[97]⟩ 1 else some false else some false) = _
 rw [wF, zr]
 show AQ ⟨#[97]⟩ 1 = _
 rw [AQ]; rfl
theorem zu : Ax ⟨#[]⟩ = some true := by
 rw [Ax]
 have e : EK ⟨#[]⟩ = some true := by rw [EK, B8]; rfl
 rw [e]; rfl
theorem zv : Bw nA = some true := by
 rw [Bw]
 have z : Cs ⟨#[]⟩ ⟨#[]⟩ = true := Fg _
 have nz : neS ⟨#[]⟩ ⟨#[]⟩ = false := by rw [LC, z]; rfl
 have e1 : CU ⟨#[]⟩ = some true := by rw [CU, if_pos z]
 have e2 : C6 [] = some true := by rw [C6, B9]; rfl
 have e3 : CN nA = some true := by rw [CN, Ay]; rfl
 show (CU ⟨#[]⟩ >>= _) = _
 rw [e1]
 show (B6 ⟨#[97]⟩ >>= _) = _
 rw [zt]
 show (if neS ⟨#[]⟩ ⟨#[]⟩ = true then some false else if neS ⟨#[]⟩ ⟨#[]⟩ = true then _ else (Ax ⟨#[]⟩ >>= _)) = _
 rw [nz, if_neg Bool.false_ne_true, if_neg Bool.false_ne_true]
 rw [zu]
 show (C6 [] >>= _) = _
 rw [e2]
 exact e3
theorem zw : Ak [nA] 0 = some true := by
 rw [Ak, Ai]
 show (Bw nA >>= _) = _
 rw [zv]
 show Bh [nA] 0 0 nA = _
 rw [Bh]
 have e : Ak [] 1 = some true := by rw [Ak, Ai]; rfl
 show (Ak [] 1 >>= _) = _
 rw [e]
 show Ai [nA] 0 1 = _
 rw [Ai]; rfl
theorem zx : Cg nD = some true := by
 rw [Cg, zq]
 show AT 0 0 nD = _
 rw [AT]
 show Bi 1 0 nD = _
 rw [Bi]
 show AT 1 1 nD = _
 rw [AT]
 have z : Cs ⟨#[]⟩ ⟨#[]⟩ = true := Fg _
 show (if Cs ⟨#[]⟩ ⟨#[]⟩ = true then if Cs ⟨#[]⟩ ⟨#[]⟩ = true then if Cs ⟨#[]⟩ ⟨#[]⟩ = true then if Cs ⟨#[]⟩ ⟨#[]⟩ = true then (Ak [nA] 0 >>= _) else _ else _ else _ else _) = _
 rw [if_pos z, if_pos z, if_pos z, if_pos z]
 rw [zw]; rfl
theorem sP : DL [] [] = some [] := by
 rw [DL]; rfl
theorem yd : ∃ u, B5 [] ⟨#[]⟩ = some (u, true) ∧ neS u ⟨#[]⟩ = false := by
 have z : Cs ⟨#[]⟩ ⟨#[]⟩ = true := Fg _
 refine ⟨⟨#[]⟩, ?_, by rw [LC, z]; rfl⟩
 rw [B5]
 show B7 [] ⟨#[]⟩ (-1) = _
 rw [B7, z]
 rfl
theorem ye : BG nA [] = some true := by
 obtain ⟨u, h1, h2⟩ := yd
 rw [BG]
 show (DL [] [] >>= _) = _
 rw [sP]
 show (B5 [] ⟨#[]⟩ >>= _) = _
 rw [h1]
 show (if neS u ⟨#[]⟩ then some false else BM [] nA) = _
 rw [h2]
 show BM [] nA = _
 rw [BM, Am]
 show AO [] 0 nA = _
 rw [AO]; rfl
theorem oQ : PC nD = true := by
 have h := (ZY nD (by rw [show nD.sz = 2 from by rw [bsz]; show 0 + (0 + (0 + ((0 + 0) + ((0 + 0) + ((1 + szs A0.sz [nA]) + 0))))) = _; rw [RP, bsz]; rfl]; omega)).1
 have e : CC nD = some true := by
  rw [CC]
  show (Cg nD >>= _) = _
  rw [zx]
  show (BG nD [] >>= _) = _
  rw [BG]
  show ((DL [] [] >>= _) >>= _) = _
  rw [sP]
  show (BM [] nD >>= _) = _
  rw [BM, Am]
  show (AO [] 0 nD >>= _) = _
  rw [AO]
  show ((BG nA [] >>= fun r7 => if r7 then AO [] 1 nD else some false) >>= _) = _
  rw [ye]
  show (AO [] 1 nD >>= _) = _
  rw [AO]; rfl
 rw [e] at h
 exact (Option.some.inj h).symm
end TT
