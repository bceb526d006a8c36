import Derived.Test.YtdpdfjkjlkmjaaaTP3Copy
import Derived.Test.YtdpdfjkjlkmjaaaTP3Cur
set_option linter.unusedVariables false
set_option linter.unusedSimpArgs false
namespace TT
open Go
def wt (l : List GNode) : Nat := l.length + szs GNode.sz l
theorem wt_cons (x : GNode) (l : List GNode) : wt (x :: l) = 1 + x.sz + wt l := by rw [wt, wt, szs_cons, List.length_cons]; omega
theorem wt_append : ∀ a b : List GNode, wt (a ++ b) = wt a + wt b
 | [], b => by rw [List.nil_append]; show _ = 0 + _; omega
 | x :: a, b => by rw [List.cons_append, wt_cons, wt_cons, wt_append a b]; omega
theorem wt_len (l : List GNode) : l.length ≤ wt l := Nat.le_add_right _ _
def withText (y : GNode) (s : ByteArray) : GNode := GNode.mk y.Kind y.Pre y.Local y.Uri y.Decls y.Attrs y.Kids s
theorem text_sz (x : GNode) : x.Text.size ≤ x.sz := by rw [GNode.sz_eq x]; omega
theorem withText_sz (y x : GNode) : (withText y (y.Text ++ x.Text)).sz ≤ y.sz + x.sz := by
 have := text_sz x
 rw [GNode.sz_eq (withText _ _), GNode.sz_eq y]
 simp only [withText, ByteArray.size_append]
 omega
def mstep (out : List GNode) (x : GNode) : List GNode :=
 if x.Kind = 2 then (if x.Text = ⟨#[]⟩ then out else match out.getLast? with
  | some y => if y.Kind = 2 then out.dropLast ++ [withText y (y.Text ++ x.Text)] else out ++ [x]
  | none => out ++ [x]) else out ++ [x]
theorem mstep_wt (out : List GNode) (x : GNode) : wt (mstep out x) ≤ wt out + (1 + x.sz) := by
 have h1 : wt (out ++ [x]) = wt out + (1 + x.sz) := by rw [wt_append, wt_cons]; rfl
 unfold mstep
 split
 ·split
  ·omega
  ·rcases List.eq_nil_or_concat out with rfl | ⟨o, y, rfl⟩
   ·exact Nat.le_of_eq h1
   ·rw [List.concat_eq_append] at h1 ⊢
    simp only [List.getLast?_concat, List.dropLast_concat]
    split
    ·rw [wt_append, wt_append, wt_cons, wt_cons]
     have := withText_sz y x
     omega
    ·exact Nat.le_of_eq h1
 ·exact Nat.le_of_eq h1
theorem last_at {o : List GNode} {y : GNode} (h : o.length ≤ 4000000) : subI (lenL (o ++ [y])) 1 = (o.length : Int) := by
 rw [subI_eq (by simp only [lenL, List.length_append, List.length_singleton]; omega) (by simp only [lenL, List.length_append, List.length_singleton]; omega)]
 simp only [lenL, List.length_append, List.length_singleton]; omega
theorem set_last (o : List GNode) (y z : GNode) : (o ++ [y]).set (Int.toNat (o.length : Int)) z = o ++ [z] := by simp
theorem catS_ok {x y : ByteArray} (h : x.size + y.size ≤ 4000000) : catS x y = some (x ++ y) := by unfold catS; rw [if_pos (by omega)]
theorem eqS_f {x y : ByteArray} (h : x ≠ y) : eqS x y = false := by
 cases e : eqS x y with
 | false => rfl
 | true => exact absurd (eqS_iff.1 e) h
section
variable (l : List GNode) (hl : l.length ≤ 4000000)
include hl
theorem Merge_spec_step {pre rest out : List GNode} {x : GNode} (hp : pre ++ x :: rest = l) (hw : wt out + (1 + x.sz) ≤ 1048576) : spec_Merge_l8 l out pre.length = spec_Merge_l8 l (mstep out x) ((pre ++ [x]).length : Nat) := by
 have hol := wt_len out
 have hcp := copy_spec x (by omega)
 have hr : room (out.length + 1) 144 = some () := room_ok (by omega) (by omega) (by omega)
 have hx := text_sz x
 rw [spec_Merge_l8, more_at hp, getI_at hp, next_at hp (by rw [maxLen_eq]; omega)]
 simp only [if_true, some_bnd]
 have app : spec_Merge_j29 l out pre.length false x = spec_Merge_l8 l (out ++ [x]) ((pre ++ [x]).length : Nat) := by
  rw [spec_Merge_j29, hcp, hr, next_at hp (by rw [maxLen_eq]; omega)]; rfl
 unfold mstep
 by_cases h2 : x.Kind = 2
 ·rw [eqI_t h2, if_pos h2]
  simp only [if_true]
  by_cases h3 : x.Text = ⟨#[]⟩
  ·rw [eqS_iff.2 h3, if_pos h3]; rfl
  ·rw [eqS_f h3, if_neg h3]
   simp only [Bool.false_eq_true, if_false]
   rcases List.eq_nil_or_concat out with rfl | ⟨o, y, rfl⟩
   ·rw [gtI_f (by simp [lenL])]
    exact app
   ·rw [List.concat_eq_append] at app hr hw hol ⊢
    rw [wt_append, wt_cons] at hw
    have hy := text_sz y
    have hol' : o.length ≤ 4000000 := by rw [List.length_append] at hol; have := wt_len o; omega
    rw [gtI_t (by simp only [lenL, List.length_append, List.length_singleton]; omega), last_at hol']
    simp only [if_true, getI_at (show o ++ y :: [] = o ++ [y] from rfl), some_bnd, List.getLast?_concat, List.dropLast_concat]
    by_cases h4 : y.Kind = 2
    ·rw [eqI_t h4, if_pos h4, spec_Merge_j29, last_at hol']
     simp only [if_true, getI_at (show o ++ y :: [] = o ++ [y] from rfl), some_bnd, catS_ok (show y.Text.size + x.Text.size ≤ 4000000 by omega), set_last, next_at hp (show l.length ≤ maxLen by rw [maxLen_eq]; omega)]
     rfl
    ·rw [eqI_f h4, if_neg h4]; exact app
 ·rw [eqI_f h2, if_neg h2]
  simp only [Bool.false_eq_true, if_false, hcp, hr, some_bnd]
end
def mergeP (l : List GNode) : List GNode := l.foldl mstep []
theorem merge_loopS (l : List GNode) (hl : l.length ≤ 4000000) : ∀ rest pre out : List GNode, pre ++ rest = l → wt out + wt rest ≤ 1048576 →
  spec_Merge_l8 l out pre.length = some (rest.foldl mstep out) ∧ wt (rest.foldl mstep out) ≤ wt out + wt rest
 | [], pre, out, hp, hw => ⟨by rw [spec_Merge_l8, end_at hp]; rfl, Nat.le_add_right _ _⟩
 | x :: rest, pre, out, hp, hw => by
  rw [wt_cons] at hw ⊢
  have h1 := mstep_wt out x
  rw [Merge_spec_step l hl hp (by omega)]
  obtain ⟨g1, g3⟩ := merge_loopS l hl rest (pre ++ [x]) (mstep out x) (step_at hp) (by omega)
  exact ⟨g1, by rw [List.foldl_cons]; omega⟩
theorem merge_spec (l : List GNode) (h : wt l ≤ 1048576) : spec_Merge l = some (mergeP l) ∧ wt (mergeP l) ≤ wt l := by
 have := wt_len l
 obtain ⟨g1, g3⟩ := merge_loopS l (by omega) l [] [] rfl (by show 0 + _ ≤ _; omega)
 exact ⟨by rw [spec_Merge]; exact g1, by have : wt [] = 0 := rfl; rw [this, Nat.zero_add] at g3; exact g3⟩
end TT
namespace TT
open Go
structure Dok (l : List GDecl) (n : Nat) : Prop where
 len : l.length ≤ n
 each : ∀ d ∈ l, d.Pre.size ≤ 1 ∧ d.Uri.size ≤ 5
theorem Dok.push {l : List GDecl} {n : Nat} (h : Dok l n) {d : GDecl} (hd : d.Pre.size ≤ 1 ∧ d.Uri.size ≤ 5) : Dok (l ++ [d]) (n + 1) :=
 ⟨by have := h.len; simp; omega, fun x hx => by rcases List.mem_append.1 hx with hx | hx; exact h.each x hx; simp at hx; rw [hx]; exact hd⟩
theorem Dok.le {l : List GDecl} {n m : Nat} (h : Dok l n) (hm : n ≤ m) : Dok l m := ⟨Nat.le_trans h.len hm, h.each⟩
theorem Dok.sz {l : List GDecl} {n : Nat} (h : Dok l n) : szs GDecl.sz l ≤ 6 * l.length := by
 have : ∀ l : List GDecl, (∀ d ∈ l, d.Pre.size ≤ 1 ∧ d.Uri.size ≤ 5) → szs GDecl.sz l ≤ 6 * l.length := by
  intro l
  induction l with
  | nil => intro _; exact Nat.le_refl _
  | cons x l ih =>
   intro h
   have h1 := h x (List.mem_cons_self ..)
   have h2 := ih fun d hd => h d (List.mem_cons_of_mem _ hd)
   rw [szs_cons, GDecl.sz_eq, List.length_cons]; omega
 exact this l h.each
theorem str_sz {l : List ByteArray} {n : Nat} {x : ByteArray} (h : x ∈ l) (hl : ∀ y ∈ l, y.size ≤ n) : x.size ≤ n := hl x h
theorem l4Uri_tot (c : Gl1Cur) (h : Cok c) : Tot (spec_l4Uri c) fun r => r.1.size ≤ 5 ∧ Cok r.2 := by
 rw [spec_l4Uri]
 exact (l1Str_tot c h _ (by decide)).bnd fun r hr => Tot.ret ⟨str_sz hr.1 (by decide), hr.2⟩
theorem l4Decl_tot (c : Gl1Cur) (h : Cok c) : Tot (spec_l4Decl c) fun r => (r.1.Pre.size ≤ 1 ∧ r.1.Uri.size ≤ 5) ∧ Cok r.2 := by
 rw [spec_l4Decl]
 refine (l1Str_tot c h _ (by decide)).bnd fun r hr => (l4Uri_tot _ hr.2).bnd fun s hs => ?_
 have hp : r.1.size ≤ 1 := str_sz hr.1 (by decide)
 exact Tot.ite (fun _ => (l1Once_tot _ hs.2 _).bnd fun t ht => Tot.ite (fun _ => Tot.ret ⟨⟨hp, Nat.zero_le _⟩, ht⟩) fun _ => Tot.ret ⟨⟨hp, hs.1⟩, ht⟩) fun _ => Tot.ret ⟨⟨hp, hs.1⟩, hs.2⟩
theorem last_ends {α : Type} {l : List α} (h : eqI (lenL l) 0 = false) (hl : l.length ≤ 4000000) : Ends (getI l (subI (lenL l) 1)) := by
 have hn : (l.length : Int) ≠ 0 := fun e => by rw [eqI_t (show lenL l = 0 from e)] at h; cases h
 rw [subI_eq (by simp only [lenL]; omega) (by simp only [lenL]; omega)]
 exact (Tot.getI (by simp only [lenL]; omega) (by simp only [lenL]; omega)).ends
theorem l4Draw_loop : ∀ (m : Nat) (l : List GDecl) (c : Gl1Cur) (n : Nat), n + m ≤ 200 → Cok c → Dok l n → Tot (spec_l4Draw_l8 l (m : Nat) c) fun r => Dok r.1 (n + m) ∧ Cok r.2 := by
 intro m
 induction m with
 | zero => intro l c n hn hc hl; rw [spec_l4Draw_l8, gtI_f (by omega)]; exact Tot.ret ⟨hl, hc⟩
 | succ m ih =>
  intro l c n hn hc hl
  have hll := hl.len
  rw [spec_l4Draw_l8, gtI_t (by omega), show subI ((m + 1 : Nat) : Int) 1 = (m : Int) by rw [subI_eq (by omega) (by omega)]; omega]
  simp only [if_true]
  refine (l4Decl_tot c hc).bnd fun r hr => ?_
  have a : Tot (spec_l4Draw_l8 (l ++ [r.1]) (m : Nat) r.2) fun q => Dok q.1 (n + (m + 1)) ∧ Cok q.2 := (ih _ _ (n + 1) (by omega) hr.2 (hl.push hr.1)).mono fun q hq => ⟨hq.1.le (by omega), hq.2⟩
  have b : Tot (spec_l4Draw_l8 l (m : Nat) r.2) fun q => Dok q.1 (n + (m + 1)) ∧ Cok q.2 := (ih _ _ n (by omega) hr.2 hl).mono fun q hq => ⟨hq.1.le (by omega), hq.2⟩
  have rm : Tot (room (l.length + 1) 32) fun _ => True := Tot.room (by omega)
  exact Tot.ite (fun _ => rm.bnd fun _ _ => a) fun h0 => (last_ends h0 (by omega)).tot.bnd fun _ _ => Tot.ite (fun _ => rm.bnd fun _ _ => a) fun _ => b
theorem below_nat {a n : Int} (h0 : 0 ≤ a) (h : a < n ∨ a = 0) (hn : 0 < n) : ∃ m : Nat, a = m ∧ (m : Int) < n := ⟨a.toNat, by omega, by omega⟩
theorem l4Draw_tot (c : Gl1Cur) (h : Cok c) : Tot (spec_l4Draw c) fun r => Dok r.1 3 ∧ Cok r.2 := by
 rw [spec_l4Draw]
 refine (l1Below_tot c h 4).bnd fun r hr => ?_
 obtain ⟨m, e, hm⟩ := below_nat hr.1 hr.2.1 (by omega)
 rw [e]
 exact (l4Draw_loop m [] r.2 0 (by omega) hr.2.2 ⟨Nat.le_refl _, fun d hd => by cases hd⟩).mono fun q hq => ⟨hq.1.le (by omega), hq.2⟩
theorem l5Val_tot (c : Gl1Cur) (h : Cok c) : Tot (spec_l5Val c) fun r => r.1.size ≤ 5 ∧ Cok r.2 := by
 rw [spec_l5Val]
 exact (l1Str_tot c h _ (by decide)).bnd fun r hr => Tot.ret ⟨str_sz hr.1 (by decide), hr.2⟩
structure Env1 (r3 : List GDecl) (k : Nat) : Prop where
 dok : Dok r3 k
 few : k ≤ 100000
theorem Env1.space {r3 : List GDecl} {k : Nat} (h : Env1 r3 k) (p : ByteArray) : Tot (spec_SpaceOf r3 p) fun r => r.1.size ≤ 5 :=
 space_tot r3 p (by have := h.dok.len; have := h.few; omega) 5 fun d hd => (h.dok.each d hd).2
def Aok (l : List GAttr) (n : Nat) : Prop := l.length ≤ n ∧ ∀ a ∈ l, a.sz ≤ 20
theorem Aok.push {l : List GAttr} {n : Nat} (h : Aok l n) {a : GAttr} (ha : a.sz ≤ 20) : Aok (l ++ [a]) (n + 1) :=
 ⟨by have := h.1; simp; omega, fun x hx => by rcases List.mem_append.1 hx with hx | hx; exact h.2 x hx; simp at hx; rw [hx]; exact ha⟩
theorem Aok.szs {l : List GAttr} {n : Nat} (h : Aok l n) : szs GAttr.sz l ≤ 20 * l.length := by
 have : ∀ l : List GAttr, (∀ d ∈ l, d.sz ≤ 20) → TT.szs GAttr.sz l ≤ 20 * l.length := by
  intro l
  induction l with
  | nil => intro _; exact Nat.le_refl _
  | cons x l ih =>
   intro h
   have h1 := h x (List.mem_cons_self ..)
   have h2 := ih fun d hd => h d (List.mem_cons_of_mem _ hd)
   rw [szs_cons, List.length_cons]; omega
 exact this l h.2
def Eok (m : Nat) (x : GNode × Gl1Cur × Int) : Prop := Cok x.2.1 ∧ ∃ k : Nat, x.2.2 = (k : Int) ∧ k ≤ m ∧ x.1.sz + 1 + 200 * k ≤ 200 * (m + 1)
section
variable {in1 r3 : List GDecl} {k : Nat} (he : Env1 r3 k)
include he
theorem l67_tot (m : Nat) (hm : m ≤ 1000) (ih : ∀ m', m' < m → ∀ (c : Gl1Cur) (r3 : List GDecl) (k : Nat), Env1 r3 k → k + 3 * (m' + 1) ≤ 100000 → Cok c → Tot (spec_l5El c r3 (m' : Nat)) (Eok m')) (hk : k + 3 * m ≤ 100000)
  (nPre : ByteArray) (r : ByteArray × Gl1Cur) (u : ByteArray) (nD : List GDecl) (nA : List GAttr) (h1 : nPre.size ≤ 1) (h2 : r.1.size ≤ 4) (h3 : u.size ≤ 5) (h4 : Dok nD 3) (h5 : Aok nA 2) :
  ∀ (i m1 : Nat) (c : Gl1Cur) (ks : List GNode), i ≤ 10 → m1 ≤ m → Cok c → wt ks + 200 * m1 ≤ 200 * m → Tot (spec_l5El_l67 r3 (i : Nat) c (m1 : Nat) nPre r u nD nA ks) (Eok m) := by
 have fin : ∀ (m1 : Nat) (c : Gl1Cur) (ks : List GNode), m1 ≤ m → Cok c → wt ks + 200 * m1 ≤ 200 * m → Tot (spec_Merge ks >>= fun q => some ((GNode.mk 1 nPre r.1 u nD nA q (⟨#[]⟩)), c, (m1 : Int))) (Eok m) := by
  intro m1 c ks hm1 hc hw
  obtain ⟨g1, g2⟩ := merge_spec ks (by omega)
  rw [g1]
  refine Tot.ret ⟨hc, m1, rfl, hm1, ?_⟩
  have d1 := h4.sz; have d2 := h4.len; have a1 := h5.szs; have a2 := h5.1
  have hwt : wt (mergeP ks) = (mergeP ks).length + szs GNode.sz (mergeP ks) := rfl
  rw [GNode.sz_eq]
  show nPre.size + (r.1.size + (u.size + ((nD.length + szs GDecl.sz nD) + ((nA.length + szs GAttr.sz nA) + (((mergeP ks).length + szs GNode.sz (mergeP ks)) + 0))))) + 1 + 200 * m1 ≤ _
  omega
 intro i
 induction i with
 | zero =>
  intro m1 c ks _ hm1 hc hw
  rw [spec_l5El_l67, gtI_f (by omega)]
  exact fin m1 c ks hm1 hc hw
 | succ i ihi =>
  intro m1 c ks hi hm1 hc hw
  have hlen := wt_len ks
  rw [spec_l5El_l67, gtI_t (by omega)]
  simp only [if_true]
  by_cases h0 : m1 = 0
  ·rw [gtI_f (by omega)]
   exact fin m1 c ks hm1 hc hw
  ·rw [gtI_t (by omega)]
   simp only [if_true]
   have e1 : subI ((i + 1 : Nat) : Int) 1 = (i : Int) := by rw [subI_eq (by omega) (by omega)]; omega
   have e2 : subI (m1 : Int) 1 = ((m1 - 1 : Nat) : Int) := by rw [subI_eq (by omega) (by omega)]; omega
   have rm : Tot (room (ks.length + 1) 144) fun _ => True := Tot.room (by omega)
   have leaf : ∀ (c' : Gl1Cur) (x : GNode), Cok c' → x.sz ≤ 20 → Tot (spec_l5El_l67 r3 (i : Nat) c' ((m1 - 1 : Nat) : Int) nPre r u nD nA (ks ++ [x])) (Eok m) := fun c' x hc' hx =>
    ihi (m1 - 1) c' _ (by omega) (by omega) hc' (by rw [wt_append, wt_cons]; show _ + (1 + x.sz + 0) + _ ≤ _; omega)
   have j81 : ∀ (q : Int × Gl1Cur) (b : Bool), Cok q.2 → Tot (spec_l5El_j81 r3 ((i + 1 : Nat) : Int) q b (m1 : Int) nPre r u nD nA ks) (Eok m) := fun q b hq => by
    rw [spec_l5El_j81, e1, e2]
    refine Tot.ite (fun _ => (l1Str_tot _ hq _ (by decide)).bnd fun s hs => rm.bnd fun _ _ => leaf _ _ hs.2 ?_) fun _ => Tot.ite (fun _ => (l1Str_tot _ hq _ (by decide)).bnd fun s hs => rm.bnd fun _ _ => leaf _ _ hs.2 ?_) fun _ => Tot.ite (fun _ => (l1Str_tot _ hq _ (by decide)).bnd fun s hs => rm.bnd fun _ _ => leaf _ _ hs.2 ?_) fun _ => ?_
    ·have := str_sz (n := 5) hs.1 (by decide); rw [GNode.sz_eq]; show 0 + (0 + (0 + ((0 + 0) + ((0 + 0) + ((0 + 0) + s.1.size))))) ≤ _; omega
    ·have := str_sz (n := 5) hs.1 (by decide); rw [GNode.sz_eq]; show 0 + (0 + (0 + ((0 + 0) + ((0 + 0) + ((0 + 0) + s.1.size))))) ≤ _; omega
    ·have := str_sz (n := 5) hs.1 (by decide); rw [GNode.sz_eq]; show 0 + (1 + (0 + ((0 + 0) + ((0 + 0) + ((0 + 0) + s.1.size))))) ≤ _; omega
    ·refine (ih (m1 - 1) (by omega) _ r3 k he (by omega) hq).bnd fun x hx => rm.bnd fun _ _ => ?_
     obtain ⟨x1, k', x2, x3, x4⟩ := hx
     rw [x2]
     exact ihi k' _ _ (by omega) (by omega) x1 (by rw [wt_append, wt_cons]; show _ + (1 + x.1.sz + 0) + _ ≤ _; omega)
   exact (l1Below_tot c hc 6).bnd fun q hq => Tot.ite (fun _ => j81 _ _ hq.2.2) fun _ => j81 _ _ hq.2.2
theorem l34_tot (m : Nat) (hm : m ≤ 1000) (ih : ∀ m', m' < m → ∀ (c : Gl1Cur) (r3 : List GDecl) (k : Nat), Env1 r3 k → k + 3 * (m' + 1) ≤ 100000 → Cok c → Tot (spec_l5El c r3 (m' : Nat)) (Eok m')) (hk : k + 3 * m ≤ 100000)
  (nPre : ByteArray) (r : ByteArray × Gl1Cur) (u : ByteArray) (nD : List GDecl) (h1 : nPre.size ≤ 1) (h2 : r.1.size ≤ 4) (h3 : u.size ≤ 5) (h4 : Dok nD 3) :
  ∀ (i n : Nat) (c : Gl1Cur) (nA : List GAttr), n + i ≤ 2 → Cok c → Aok nA n → Tot (spec_l5El_l34 r3 (i : Nat) c (m : Nat) nPre r u nD nA) (Eok m) := by
 intro i
 induction i with
 | zero =>
  intro n c nA hn hc hA
  rw [spec_l5El_l34, gtI_f (by omega)]
  simp only [Bool.false_eq_true, if_false]
  refine (l1Below_tot c hc 4).bnd fun q hq => ?_
  obtain ⟨i, e, hi⟩ := below_nat hq.1 hq.2.1 (by omega)
  rw [e]
  exact l67_tot he m hm ih hk nPre r u nD nA h1 h2 h3 h4 ⟨by have := hA.1; omega, hA.2⟩ i m _ [] (by omega) (Nat.le_refl _) hq.2.2 (by show 0 + _ ≤ _; omega)
 | succ i ihi =>
  intro n c nA hn hc hA
  have e1 : subI ((i + 1 : Nat) : Int) 1 = (i : Int) := by rw [subI_eq (by omega) (by omega)]; omega
  rw [spec_l5El_l34, gtI_t (by omega)]
  simp only [if_true]
  have hlA := hA.1
  have rm : Tot (room (nA.length + 1) 64) fun _ => True := Tot.room (by omega)
  have j49 : ∀ (q : ByteArray × Gl1Cur) (a : GAttr), Cok q.2 → a.sz ≤ 20 → Tot (spec_l5El_j49 r3 ((i + 1 : Nat) : Int) q (m : Nat) nPre r u nD nA a) (Eok m) := fun q a hq ha => by
   have x1 := ihi (n + 1) _ _ (by omega) hq (hA.push ha)
   have x2 := ihi n _ _ (by omega) hq hA
   rw [spec_l5El_j49, e1]
   exact Tot.ite (fun _ => rm.bnd fun _ _ => x1) fun h0 => (last_ends h0 (by omega)).tot.bnd fun _ _ => (less_ends _ _).tot.bnd fun _ _ => Tot.ite (fun _ => rm.bnd fun _ _ => x1) fun _ => x2
  refine (l1Str_tot c hc _ (by decide)).bnd fun a ha => (l5Val_tot _ ha.2).bnd fun v hv => (l1Str_tot _ hv.2 _ (by decide)).bnd fun p hp => (he.space _).bnd fun w hw => ?_
  have s1 := str_sz (n := 2) ha.1 (by decide)
  have s2 := str_sz (n := 1) hp.1 (by decide)
  have s3 := hv.1
  refine Tot.ite (fun _ => Tot.ite (fun _ => j49 _ _ hp.2 ?_) fun _ => j49 _ _ hp.2 ?_) fun _ => j49 _ _ hp.2 ?_
  ·rw [GAttr.sz_eq]; show p.1.size + (a.1.size + (w.1.size + v.1.size)) ≤ _; omega
  ·rw [GAttr.sz_eq]; show 0 + (a.1.size + (0 + v.1.size)) ≤ _; omega
  ·rw [GAttr.sz_eq]; show 0 + (a.1.size + (0 + v.1.size)) ≤ _; omega
end
theorem l5El_tot : ∀ (m : Nat), m ≤ 1000 → ∀ (c : Gl1Cur) (r3 : List GDecl) (k : Nat), Env1 r3 k → k + 3 * (m + 1) ≤ 100000 → Cok c → Tot (spec_l5El c r3 (m : Nat)) (Eok m) := by
 intro m
 induction m using Nat.strongRecOn with
 | _ m ih =>
  intro hm c in1 k he hk hc
  have ih' : ∀ m', m' < m → ∀ (c : Gl1Cur) (r3 : List GDecl) (k : Nat), Env1 r3 k → k + 3 * (m' + 1) ≤ 100000 → Cok c → Tot (spec_l5El c r3 (m' : Nat)) (Eok m') := fun m' h => ih m' h (by omega)
  rw [spec_l5El]
  refine (l1Str_tot c hc _ (by decide)).bnd fun r hr => ?_
  have hr4 : r.1.size ≤ 4 := str_sz hr.1 (by decide)
  have j4 : ∀ (c1 : Gl1Cur) (nD : List GDecl), Cok c1 → Dok nD 3 → Tot (spec_l5El_j4 in1 c1 (m : Nat) r nD) (Eok m) := fun c1 nD hc1 hD => by
   have hl := he.dok.len; have hl2 := hD.len; have hf := he.few
   rw [spec_l5El_j4, inner_eq _ _ (by omega)]
   have he2 : Env1 (in1 ++ nD) (k + 3) := ⟨⟨by rw [List.length_append]; omega, fun d hd => by rcases List.mem_append.1 hd with h | h; exact he.dok.each d h; exact hD.each d h⟩, by omega⟩
   have j20 : ∀ (u : ByteArray) (c2 : Gl1Cur) (p : ByteArray), Cok c2 → u.size ≤ 5 → p.size ≤ 1 → Tot (spec_l5El_j20 (in1 ++ nD) u c2 (m : Nat) p r nD) (Eok m) := fun u c2 p hc2 hu hp => by
    rw [spec_l5El_j20]
    refine (l1Below_tot c2 hc2 3).bnd fun q hq => ?_
    obtain ⟨i, e, hi⟩ := below_nat hq.1 hq.2.1 (by omega)
    rw [e]
    exact l34_tot he2 m hm ih' (by omega) p r u nD hp hr4 hu hD i 0 _ [] (by omega) hq.2.2 ⟨Nat.le_refl _, fun d hd => by cases hd⟩
   have j12 : ∀ (c2 : Gl1Cur) (p : ByteArray), Cok c2 → p.size ≤ 1 → Tot (spec_l5El_j12 (in1 ++ nD) c2 (m : Nat) p r nD) (Eok m) := fun c2 p hc2 hp => by
    rw [spec_l5El_j12]
    exact (he2.space _).bnd fun w hw => Tot.ite (fun _ => j20 _ _ _ hc2 hw hp) fun _ => (he2.space _).bnd fun w hw => j20 _ _ _ hc2 hw (Nat.zero_le _)
   rw [some_bnd]
   exact (l1Once_tot _ hc1 _).bnd fun q hq => Tot.ite (fun _ => (l1Str_tot _ hq _ (by decide)).bnd fun s hs => j12 _ _ hs.2 (str_sz hs.1 (by decide))) fun _ => j12 _ _ hq (Nat.zero_le _)
  exact (l1Once_tot _ hr.2 _).bnd fun q hq => Tot.ite (fun _ => (l4Draw_tot _ hq).bnd fun d hd => j4 _ _ hd.2 hd.1) fun _ => j4 _ _ hq ⟨Nat.zero_le _, fun d hd => by cases hd⟩
end TT
namespace TT
open Go
theorem note_sz : (GNode.mk 3 (⟨#[]⟩) (⟨#[]⟩) (⟨#[]⟩) [] [] [] (⟨#[104]⟩)).sz = 1 := by rw [GNode.sz_eq]; rfl
theorem told_sz : (GNode.mk 4 (⟨#[]⟩) (⟨#[116]⟩) (⟨#[]⟩) [] [] [] (⟨#[101, 110, 100]⟩)).sz = 4 := by rw [GNode.sz_eq]; rfl
theorem bare_sz : (GNode.mk 0 (⟨#[]⟩) (⟨#[]⟩) (⟨#[]⟩) [] [] [(GNode.mk 1 (⟨#[]⟩) (⟨#[97]⟩) (⟨#[]⟩) [] [] [] (⟨#[]⟩))] (⟨#[]⟩)).sz = 2 := by rw [GNode.sz_eq, szs_cons, GNode.sz_eq]; rfl
theorem doc_sz (ks : List GNode) : (GNode.mk 0 (⟨#[]⟩) (⟨#[]⟩) (⟨#[]⟩) [] [] ks (⟨#[]⟩)).sz = wt ks := by rw [GNode.sz_eq, wt]; show 0 + (0 + (0 + ((0 + 0) + ((0 + 0) + ((ks.length + szs GNode.sz ks) + 0))))) = ks.length + szs GNode.sz ks; omega
theorem l5Draw_totP (P : GNode → Prop) (hP : ∀ n, n.sz ≤ 3000 → spec_TreeOk n = some true → P n) (h0 : P (GNode.mk 0 (⟨#[]⟩) (⟨#[]⟩) (⟨#[]⟩) [] [] [(GNode.mk 1 (⟨#[]⟩) (⟨#[97]⟩) (⟨#[]⟩) [] [] [] (⟨#[]⟩))] (⟨#[]⟩))) (c : Gl1Cur) (h : Cok c) : Tot (spec_l5Draw c) fun r => r.1.sz ≤ 3000 ∧ Cok r.2 ∧ P r.1 := by
 have j16 : ∀ (q : Bool × Gl1Cur) (ks : List GNode), Cok q.2 → wt ks ≤ 3000 → Tot (spec_l5Draw_j16 q ks) fun r => r.1.sz ≤ 3000 ∧ Cok r.2 ∧ P r.1 := fun q ks hq hk => by
  have e := doc_sz ks
  rw [spec_l5Draw_j16]
  obtain ⟨b, eb⟩ := treeOk_ends (GNode.mk 0 (⟨#[]⟩) (⟨#[]⟩) (⟨#[]⟩) [] [] ks (⟨#[]⟩)) (by omega)
  rw [eb]
  exact Tot.ite (fun hb => Tot.ret ⟨Nat.le_trans (Nat.le_of_eq e) hk, hq, hP _ (Nat.le_trans (Nat.le_of_eq e) hk) (by rw [eb, hb])⟩) fun _ => Tot.ret ⟨by show GNode.sz _ ≤ _; rw [bare_sz]; omega, hq, h0⟩
 have j6 : ∀ (q : Bool × Gl1Cur) (p : Int × Gl1Cur) (m : Nat) (ks : List GNode), Cok q.2 → p.1 = (m : Int) → m ≤ 7 → wt ks ≤ 10 → Tot (spec_l5Draw_j6 q p ks) fun r => r.1.sz ≤ 3000 ∧ Cok r.2 ∧ P r.1 := fun q p m ks hq hp hm hk => by
  have hl := wt_len ks
  rw [spec_l5Draw_j6, hp, show addI 3 (m : Int) = ((m + 3 : Nat) : Int) by rw [addI_eq (by omega) (by omega)]; omega]
  refine (l5El_tot (m + 3) (by omega) q.2 [] 0 ⟨⟨Nat.le_refl _, fun d hd => by cases hd⟩, by omega⟩ (by omega) hq).bnd fun x hx => ?_
  obtain ⟨x1, k, x2, x3, x4⟩ := hx
  have w1 : wt (ks ++ [x.1]) ≤ 2300 := by rw [wt_append, wt_cons]; show _ + (1 + x.1.sz + 0) ≤ _; omega
  have rm1 : Tot (room (ks.length + 1) 144) fun _ => True := Tot.room (by omega)
  have rm2 : Tot (room ((ks ++ [x.1]).length + 1) 144) fun _ => True := Tot.room (by have := wt_len (ks ++ [x.1]); omega)
  refine rm1.bnd fun _ _ => (l1Once_tot _ x1 _).bnd fun s hs => Tot.ite (fun _ => rm2.bnd fun _ _ => j16 _ _ hs ?_) fun _ => j16 _ _ hs (by omega)
  rw [wt_append, wt_cons, told_sz]
  show _ + (1 + 4 + 0) ≤ _
  omega
 rw [spec_l5Draw]
 refine (l1Below_tot c h 8).bnd fun p hp => ?_
 obtain ⟨m, e, hm⟩ := below_nat hp.1 hp.2.1 (by omega)
 exact (l1Once_tot _ hp.2.2 _).bnd fun q hq => Tot.ite (fun _ => (Tot.room (by omega)).bnd fun _ _ => j6 _ _ m _ hq e (by omega) (by rw [List.nil_append, wt_cons, note_sz]; show 1 + 1 + 0 ≤ _; omega)) fun _ => j6 _ _ m _ hq e (by omega) (by show 0 ≤ _; omega)
theorem l5Draw_tot (c : Gl1Cur) (h : Cok c) : Tot (spec_l5Draw c) fun r => r.1.sz ≤ 3000 ∧ Cok r.2 := (l5Draw_totP (fun _ => True) (fun _ _ _ => trivial) trivial c h).mono fun r hr => ⟨hr.1, hr.2.1⟩
end TT
