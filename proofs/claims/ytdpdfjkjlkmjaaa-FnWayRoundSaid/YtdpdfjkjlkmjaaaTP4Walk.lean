import Derived.Test.YtdpdfjkjlkmjaaaTP4Ted
import Derived.Test.YtdpdfjkjlkmjaaaTP3Cur
import Derived.Test.YtdpdfjkjlkmjaaaTP3Copy
import Derived.Test.YtdpdfjkjlkmjaaaTP3Same
import Derived.Test.YtdpdfjkjlkmjaaaTP3Lcs
set_option linter.unusedVariables false
set_option linter.unusedSimpArgs false
namespace TT
open Go
def lone (n : GNode) : GNode := GNode.mk n.Kind n.Pre n.Local n.Uri n.Decls n.Attrs [] n.Text
theorem lone_sz (n : GNode) : (lone n).sz ≤ n.sz := by rw [GNode.sz_eq, GNode.sz_eq n, lone]; simp only [List.length_nil, szs, List.map_nil, List.sum_nil]; omega
theorem kid_sz {n x : GNode} (h : x ∈ n.Kids) : x.sz < n.sz := by
 have := szs_mem GNode.sz h
 have h2 : 0 < n.Kids.length := List.length_pos_of_mem h
 rw [GNode.sz_eq n]; omega
theorem po_sz : ∀ n : GNode, ∀ x ∈ po n, x.sz ≤ n.sz := by
 refine GNode.ind' fun n ih x hx => ?_
 rw [po_eq, List.mem_append] at hx
 rcases hx with h | h
 ·have key : ∀ l : List GNode, (∀ y ∈ l, y ∈ n.Kids) → x ∈ poL l → x.sz ≤ n.sz := by
   intro l
   induction l with
   | nil => intro _ h; cases h
   | cons y l ihl =>
    intro hl h
    rw [poL, List.mem_append] at h
    rcases h with h | h
    ·have := ih y (hl y (by simp)) x h; have := kid_sz (hl y (by simp)); omega
    ·exact ihl (fun z hz => hl z (by simp [hz])) h
  exact key _ (fun _ h => h) h
 ·rw [List.mem_singleton] at h; rw [h]; exact Nat.le_refl _
theorem nzL_sz : ∀ l : List GNode, (∀ x ∈ l, nz x ≤ x.sz + 1) → nzL l ≤ l.length + szs GNode.sz l
 | [], _ => Nat.zero_le _
 | x :: l, h => by have := h x (by simp); have := nzL_sz l fun y hy => h y (by simp [hy]); rw [nzL_cons, szs_cons, List.length_cons]; omega
theorem nz_sz : ∀ n : GNode, nz n ≤ n.sz + 1 := by
 refine GNode.ind' fun n ih => ?_
 have := nzL_sz _ ih
 rw [nz_eq, GNode.sz_eq n]; omega
theorem nodes_loop (F : Int → Int → Option Int) (g : GNode → Option Int) (n : GNode) (hs : n.sz ≤ 1048576)
  (hF : ∀ k i, F k i = if ltI i (lenL n.Kids) then getI n.Kids i >>= fun x => g x >>= fun r => F (addI k r) (addI i 1) else some k)
  (hg : ∀ x ∈ n.Kids, g x = some ((nz x : Nat) : Int)) : F 1 0 = some ((nz n : Nat) : Int) := by
 have hz := nz_sz n
 have hl : n.Kids.length ≤ 1048576 := by rw [GNode.sz_eq] at hs; omega
 have key : ∀ rest pre : List GNode, pre ++ rest = n.Kids → F ((1 + nzL pre : Nat) : Int) pre.length = some ((nz n : Nat) : Int) := by
  intro rest
  induction rest with
  | nil => intro pre hp; rw [hF, end_at hp, nz_eq, ← hp, List.append_nil]; rfl
  | cons x rest ih =>
   intro pre hp
   have h1 : nzL pre + (nz x + nzL rest) = nzL n.Kids := by rw [← hp, nzL_append, nzL_cons]
   rw [hF, more_at hp, getI_at hp, next_at hp (by rw [maxLen_eq]; omega)]
   simp only [if_true, some_bnd, hg x (by rw [← hp]; simp)]
   rw [nz_eq] at hz
   rw [addI_eq (by omega) (by omega)]
   have := ih (pre ++ [x]) (step_at hp)
   rw [nzL_append, nzL_one] at this
   rw [← this]
   congr 1; omega
 exact key n.Kids [] rfl
theorem impl_nz : ∀ n : GNode, n.sz ≤ 1048576 → impl_Nodes n = some ((nz n : Nat) : Int) := by
 refine GNode.ind' fun n ih hs => ?_
 rw [impl_Nodes]
 exact nodes_loop (fun k i => impl_Nodes_l8 k n i) impl_Nodes n hs (fun k i => by rw [impl_Nodes_l8]) fun x hx => ih x hx (by have := kid_sz hx; omega)
theorem spec_nz : ∀ n : GNode, n.sz ≤ 1048576 → spec_Nodes n = some ((nz n : Nat) : Int) := by
 refine GNode.ind' fun n ih hs => ?_
 rw [spec_Nodes]
 exact nodes_loop (fun k i => spec_Nodes_l8 k i n) spec_Nodes n hs (fun k i => by rw [spec_Nodes_l8]) fun x hx => ih x hx (by have := kid_sz hx; omega)
def fsts : Nat → List GNode → List Int
 | _, [] => []
 | a, v :: l => ((a + 1 - nz v : Nat) : Int) :: fsts (a + 1) l
theorem fsts_append : ∀ (l m : List GNode) (a : Nat), fsts a (l ++ m) = fsts a l ++ fsts (a + l.length) m
 | [], m, a => rfl
 | v :: l, m, a => by rw [List.cons_append, fsts, fsts, fsts_append l m, List.length_cons, show a + 1 + l.length = a + (l.length + 1) by omega]; rfl
theorem fsts_len : ∀ (l : List GNode) (a : Nat), (fsts a l).length = l.length
 | [], a => rfl
 | v :: l, a => by rw [fsts, List.length_cons, fsts_len l, List.length_cons]
theorem fsts_get : ∀ (l : List GNode) (a i : Nat), (fsts a l)[i]? = l[i]?.map fun v => ((a + i + 1 - nz v : Nat) : Int)
 | [], a, i => by simp [fsts]
 | v :: l, a, 0 => by simp [fsts]
 | v :: l, a, i + 1 => by
  rw [fsts, List.getElem?_cons_succ, List.getElem?_cons_succ, fsts_get l (a + 1) i]
  congr 1; funext w; rw [show a + 1 + i + 1 = a + (i + 1) + 1 by omega]
theorem fsts_po (a : Nat) (n : GNode) : fsts a (po n) = fsts a (poL n.Kids) ++ [(a : Int)] := by
 rw [po_eq, fsts_append, poL_len]
 show _ ++ [((a + nzL n.Kids + 1 - nz n : Nat) : Int)] = _
 rw [nz_eq, show a + nzL n.Kids + 1 - (1 + nzL n.Kids) = a by omega]
theorem spec_alone (n : GNode) (hs : n.sz ≤ 1048576) : spec_Alone n = some (lone n) := by rw [spec_Alone, copy_spec n hs]; rfl
theorem impl_alone (n : GNode) (hs : n.sz ≤ 1048576) : impl_Alone n = some (lone n) := by
 have e : impl_cloneNode (lone n) = some (lone n) := copy_impl _ (by have := lone_sz n; omega)
 rw [impl_Alone]
 show (impl_cloneNode (lone n) >>= fun r => some r) = _
 rw [e]; rfl
theorem spec_post : ∀ n : GNode, n.sz ≤ 1048576 → ∀ a : Nat, a + nz n ≤ 1000 → spec_l18Post n a = some ((po n).map lone, fsts a (po n)) := by
 refine GNode.ind' fun n ih hs a ha => ?_
 have hl : n.Kids.length ≤ 1048576 := by rw [GNode.sz_eq] at hs; omega
 have key : ∀ rest pre : List GNode, pre ++ rest = n.Kids → spec_l18Post_l10 a ((poL pre).map lone) (fsts a (poL pre)) pre.length n = some ((po n).map lone, fsts a (po n)) := by
  intro rest
  induction rest with
  | nil =>
   intro pre hp
   have hp' : pre = n.Kids := by simpa using hp
   have hz := nz_eq n
   rw [spec_l18Post_l10, end_at hp, spec_alone n hs]
   simp only [some_bnd, Bool.false_eq_true, if_false]
   rw [room_ok (by rw [List.length_map, poL_len, hp']; omega) (by omega) (by omega), room_ok (by rw [fsts_len, poL_len, hp']; omega) (by omega) (by omega), fsts_po, hp']
   simp only [some_bnd]
   rw [po_eq, List.map_append]; rfl
  | cons x rest ihr =>
   intro pre hp
   have h1 : nzL pre + (nz x + nzL rest) = nzL n.Kids := by rw [← hp, nzL_append, nzL_cons]
   have hz := nz_eq n
   have hx : x ∈ n.Kids := by rw [← hp]; simp
   have e : addI (a : Int) (lenL ((poL pre).map lone)) = ((a + nzL pre : Nat) : Int) := by
    simp only [lenL, List.length_map, poL_len]
    rw [addI_eq (by omega) (by omega)]; omega
   rw [spec_l18Post_l10, more_at hp, getI_at hp, next_at hp (by rw [maxLen_eq]; omega)]
   simp only [if_true, some_bnd]
   rw [e, ih x hx (by have := kid_sz hx; omega) (a + nzL pre) (by omega)]
   simp only [some_bnd]
   rw [room_ok (by rw [List.length_map, List.length_map, poL_len, po_len]; omega) (by omega) (by omega), room_ok (by rw [fsts_len, fsts_len, poL_len, po_len]; omega) (by omega) (by omega)]
   simp only [some_bnd]
   have := ihr (pre ++ [x]) (step_at hp)
   rw [poL_append, show poL [x] = po x by rw [poL, poL, List.append_nil], List.map_append, fsts_append, poL_len] at this
   exact this
 rw [spec_l18Post]
 exact key n.Kids [] rfl
theorem put_loop {σ : Type} (mk : List GNode → List Int → σ) (n : GNode) (hs : n.sz ≤ 1048576) (ns0 : List GNode) (fs0 : List Int) (hn : ns0.length + nz n ≤ 1000) (h0 : fs0.length = ns0.length)
  (P : σ → GNode → Option σ) (F : Int → σ → Option σ)
  (hP : ∀ x ∈ n.Kids, ∀ ns fs, ns.length + nz x ≤ 1000 → fs.length = ns.length → P (mk ns fs) x = some (mk (ns ++ (po x).map lone) (fs ++ fsts ns.length (po x))))
  (hF : ∀ i ns fs, F i (mk ns fs) = if ltI i (lenL n.Kids) then getI n.Kids i >>= fun x => P (mk ns fs) x >>= fun r4 => F (addI i 1) r4 else
    impl_Alone n >>= fun r5 => room (ns.length + 1) 144 >>= fun _ => getI (ns ++ [(GNode.mk 0 (⟨#[]⟩) (⟨#[]⟩) (⟨#[]⟩) [] [] [] (⟨#[]⟩))]) (lenL ns) >>= fun _ => room (fs.length + 1) 8 >>= fun _ =>
     some (mk ((ns ++ [(GNode.mk 0 (⟨#[]⟩) (⟨#[]⟩) (⟨#[]⟩) [] [] [] (⟨#[]⟩))]).set (Int.toNat (lenL ns)) r5) (fs ++ [(lenL ns0)]))) :
  F 0 (mk ns0 fs0) = some (mk (ns0 ++ (po n).map lone) (fs0 ++ fsts ns0.length (po n))) := by
 have hl : n.Kids.length ≤ 1048576 := by rw [GNode.sz_eq] at hs; omega
 have key : ∀ rest pre : List GNode, pre ++ rest = n.Kids → F pre.length (mk (ns0 ++ (poL pre).map lone) (fs0 ++ fsts ns0.length (poL pre))) = some (mk (ns0 ++ (po n).map lone) (fs0 ++ fsts ns0.length (po n))) := by
  intro rest
  induction rest with
  | nil =>
   intro pre hp
   have hp' : pre = n.Kids := by simpa using hp
   have hz := nz_eq n
   have e1 : ∀ (l : List GNode) (z : GNode), getI (l ++ [z]) (lenL l) = some z := fun l z => getI_at (l := l ++ [z]) (pre := l) (rest := []) rfl
   have e2 : ∀ (l : List GNode) (z y : GNode), (l ++ [z]).set (Int.toNat (lenL l)) y = l ++ [y] := by
    intro l z y
    simp only [lenL, Int.toNat_natCast]
    rw [List.set_append_right _ _ (Nat.le_refl _), Nat.sub_self]; rfl
   rw [hF, end_at hp, impl_alone n hs]
   simp only [some_bnd, Bool.false_eq_true, if_false]
   rw [room_ok (by rw [List.length_append, List.length_map, poL_len, hp']; omega) (by omega) (by omega), room_ok (by rw [List.length_append, fsts_len, poL_len, hp']; omega) (by omega) (by omega), e1, fsts_po, hp']
   simp only [some_bnd]
   rw [e2, po_eq, List.map_append]
   simp only [List.append_assoc]; rfl
  | cons x rest ihr =>
   intro pre hp
   have h1 : nzL pre + (nz x + nzL rest) = nzL n.Kids := by rw [← hp, nzL_append, nzL_cons]
   have hz := nz_eq n
   have hx : x ∈ n.Kids := by rw [← hp]; simp
   rw [hF, more_at hp, getI_at hp, next_at hp (by rw [maxLen_eq]; omega)]
   simp only [if_true, some_bnd]
   rw [hP x hx _ _ (by rw [List.length_append, List.length_map, poL_len]; omega) (by rw [List.length_append, fsts_len, poL_len, List.length_append, List.length_map, poL_len]; omega)]
   simp only [some_bnd]
   have := ihr (pre ++ [x]) (step_at hp)
   rw [poL_append, show poL [x] = po x by rw [poL, poL, List.append_nil], List.map_append, fsts_append, poL_len, ← List.append_assoc, ← List.append_assoc] at this
   rw [show (ns0 ++ List.map lone (poL pre)).length = ns0.length + nzL pre by rw [List.length_append, List.length_map, poL_len]]
   exact this
 have := key n.Kids [] rfl
 simpa [poL, fsts] using this
theorem put_a (xb : Grow) (t : List (List Int)) : ∀ n : GNode, n.sz ≤ 1048576 → ∀ ns fs, ns.length + nz n ≤ 1000 → fs.length = ns.length →
  impl_row_put' (Ggaps.mk (Grow.mk ns fs) xb t) n = some (Ggaps.mk (Grow.mk (ns ++ (po n).map lone) (fs ++ fsts ns.length (po n))) xb t) := by
 refine GNode.ind' fun n ih hs ns fs hn h0 => ?_
 rw [impl_row_put']
 exact put_loop (fun ns fs => Ggaps.mk (Grow.mk ns fs) xb t) n hs ns fs hn h0 impl_row_put' (fun i r => impl_row_put'_l8 (Ggaps.mk (Grow.mk ns fs) xb t) n i r) (fun x hx => ih x hx (by have := kid_sz hx; omega)) fun i ns fs => by rw [impl_row_put'_l8]
theorem put_b (xa : Grow) (t : List (List Int)) : ∀ n : GNode, n.sz ≤ 1048576 → ∀ ns fs, ns.length + nz n ≤ 1000 → fs.length = ns.length →
  impl_row_put'' (Ggaps.mk xa (Grow.mk ns fs) t) n = some (Ggaps.mk xa (Grow.mk (ns ++ (po n).map lone) (fs ++ fsts ns.length (po n))) t) := by
 refine GNode.ind' fun n ih hs ns fs hn h0 => ?_
 rw [impl_row_put'']
 exact put_loop (fun ns fs => Ggaps.mk xa (Grow.mk ns fs) t) n hs ns fs hn h0 impl_row_put'' (fun i r => impl_row_put''_l8 (Ggaps.mk xa (Grow.mk ns fs) t) n i r) (fun x hx => ih x hx (by have := kid_sz hx; omega)) fun i ns fs => by rw [impl_row_put''_l8]
theorem put_top (xb : Grow) (t : List (List Int)) (n : GNode) (hs : n.sz ≤ 1048576) (hn : nz n ≤ 1000) : impl_row_put (Ggaps.mk (Grow.mk [] []) xb t) n = some (Ggaps.mk (Grow.mk ((po n).map lone) (fsts 0 (po n))) xb t) := by
 rw [impl_row_put]
 have := put_loop (fun ns fs => Ggaps.mk (Grow.mk ns fs) xb t) n hs [] [] (by simpa using hn) rfl impl_row_put' (fun i r => impl_row_put_l8 (Ggaps.mk (Grow.mk [] []) xb t) n i r) (fun x hx ns fs => put_a xb t x (by have := kid_sz hx; omega) ns fs) fun i ns fs => by rw [impl_row_put_l8]
 simpa using this
theorem grid_eq (n m : Nat) (hn : n ≤ 1000) (hm : m ≤ 1000) : spec_l18Grid n m = some (tab n m fun _ _ => 0) := by
 have row : ∀ (d k : Nat), m - k = d → k ≤ m → ∀ (t : List (List Int)) (i : Int), t.length ≤ 1000 → spec_l18Grid_l23 n m t i (List.replicate k 0) k = spec_l18Grid_l8 n m (t ++ [List.replicate m 0]) (addI i 1) := by
  intro d
  induction d with
  | zero =>
   intro k hd hk t i ht
   have : k = m := by omega
   subst this
   rw [spec_l18Grid_l23, ltI_f (by omega)]
   simp only [Bool.false_eq_true, if_false]
   rw [room_ok (by omega) (by omega) (by omega)]; rfl
  | succ d ih =>
   intro k hd hk t i ht
   rw [spec_l18Grid_l23, ltI_t (by omega), add_k (by omega)]
   simp only [if_true]
   rw [room_ok (by rw [List.length_replicate]; omega) (by omega) (by omega)]
   simp only [some_bnd]
   rw [← List.replicate_succ']
   exact ih (k + 1) (by omega) (by omega) t i ht
 have col : ∀ (d i : Nat), n - i = d → i ≤ n → spec_l18Grid_l8 n m (List.replicate i (List.replicate m 0)) i = some (List.replicate n (List.replicate m 0)) := by
  intro d
  induction d with
  | zero =>
   intro i hd hi
   have : i = n := by omega
   subst this
   rw [spec_l18Grid_l8, ltI_f (by omega)]; rfl
  | succ d ih =>
   intro i hd hi
   rw [spec_l18Grid_l8, ltI_t (by omega)]
   simp only [if_true]
   refine Eq.trans (row m 0 (by omega) (by omega) _ _ (by rw [List.length_replicate]; omega)) ?_
   rw [add_k (by omega), ← List.replicate_succ']
   exact ih (i + 1) (by omega) (by omega)
 rw [spec_l18Grid, tab_zero]
 exact col n 0 (by omega) (by omega)
end TT
namespace TT
open Go
def gc (v w : GNode) : Nat := if snB (lone v) (lone w) then 0 else 1
def Wd (N M : GNode) (p q : Nat) : Nat := Ed gc (pf [N] p) (pf [M] q)
def Dd (A B : GNode) (a b : Nat) : Nat := match (po A)[a]?, (po B)[b]? with
 | some v, some w => Ed gc [v] [w]
 | _, _ => 0
theorem Dd_eq {A B v w : GNode} {a b : Nat} (h1 : (po A)[a]? = some v) (h2 : (po B)[b]? = some w) : Dd A B a b = Ed gc [v] [w] := by rw [Dd, h1, h2]
theorem Wd_zero (N M : GNode) {q : Nat} (h : q ≤ nz M) : Wd N M 0 q = q := by rw [Wd, pf_zero, Ed_nil, nzL_pf (by rw [nzL_one]; exact h)]
theorem Wd_zero' (N M : GNode) {p : Nat} (h : p ≤ nz N) : Wd N M p 0 = p := by rw [Wd, pf_zero, Ed_nil', nzL_pf (by rw [nzL_one]; exact h)]
theorem Wd_le (N M : GNode) {p q : Nat} (h1 : p ≤ nz N) (h2 : q ≤ nz M) : Wd N M p q ≤ p + q := by
 have := Ed_le gc (pf [N] p) (pf [M] q)
 rwa [nzL_pf (by rw [nzL_one]; exact h1), nzL_pf (by rw [nzL_one]; exact h2)] at this
theorem side {A N : GNode} {i p : Nat} (hN : (po A)[i]? = some N) (h0 : 0 < p) (hp : p ≤ nz N) :
  ∃ v F, (po A)[fo A i + p - 1]? = some v ∧ fo A i + p - 1 ≤ i ∧ i < nz A ∧ fo A i ≤ fo A (fo A i + p - 1) ∧ fo A (fo A i + p - 1) - fo A i < p ∧ pf [N] p = v :: F ∧ pf [N] (p - 1) = rvK v ++ F ∧ pf [N] (fo A (fo A i + p - 1) - fo A i) = F ∧ (fo A (fo A i + p - 1) = fo A i ↔ F = []) := by
 have hi : i < nz A := by rw [← po_len]; exact (List.getElem?_eq_some_iff.1 hN).1
 obtain ⟨v, F, e1, e2, e3, e4, e5, e6⟩ := pf_cons (F := [N]) h0 (by rw [nzL_one]; exact hp)
 rw [rpo_one] at e2
 have hs := po_sub hN
 have h1 := hs.2 (p - 1) (by omega)
 rw [e2, ← fo_eq hN, show fo A i + (p - 1) = fo A i + p - 1 by omega] at h1
 have h2 := fo_eq hN
 have h3 := fo_eq h1
 have h4 := nz_pos v
 have h5 : fo A (fo A i + p - 1) = fo A i + (p - nz v) := by omega
 refine ⟨v, F, h1, by omega, hi, by omega, by omega, e1, e3, ?_, ?_⟩
 ·rw [h5, Nat.add_sub_cancel_left]; exact e5
 ·rw [h5]
  constructor
  ·intro h; exact nzL_zero (by omega)
  ·intro h; rw [h] at e6; have : (0 : Nat) = p - nz v := e6; omega
theorem cell {A B N M : GNode} {i j p q : Nat} (hN : (po A)[i]? = some N) (hM : (po B)[j]? = some M) (p0 : 0 < p) (hp : p ≤ nz N) (q0 : 0 < q) (hq : q ≤ nz M) :
  ∃ v w, (po A)[fo A i + p - 1]? = some v ∧ (po B)[fo B j + q - 1]? = some w ∧
   ((fo A (fo A i + p - 1) = fo A i ∧ fo B (fo B j + q - 1) = fo B j) → Wd N M p q = min (min (Wd N M (p - 1) q) (Wd N M p (q - 1)) + 1) (Wd N M (p - 1) (q - 1) + gc v w) ∧ Wd N M p q = Dd A B (fo A i + p - 1) (fo B j + q - 1)) ∧
   Wd N M p q = min (min (Wd N M (p - 1) q) (Wd N M p (q - 1)) + 1) (Wd N M (fo A (fo A i + p - 1) - fo A i) (fo B (fo B j + q - 1) - fo B j) + Dd A B (fo A i + p - 1) (fo B j + q - 1)) := by
 obtain ⟨v, F, a1, _, _, _, _, a2, a3, a4, a5⟩ := side hN p0 hp
 obtain ⟨w, G, b1, _, _, _, _, b2, b3, b4, b5⟩ := side hM q0 hq
 refine ⟨v, w, a1, b1, ?_, ?_⟩
 ·intro h
  have e1 := a5.1 h.1
  have e2 := b5.1 h.2
  subst e1; subst e2
  rw [Dd_eq a1 b1]
  simp only [Wd, a2, b2, a3, b3]
  refine ⟨?_, trivial⟩
  rw [Ed_cons, Ed_nil, show nzL [] = 0 from rfl, List.append_nil, List.append_nil]
  omega
 ·rw [Dd_eq a1 b1]
  simp only [Wd, a2, b2, a3, b3, a4, b4]
  rw [Ed_tree]
  omega
def both (A B : GNode) (i j a b : Nat) : Prop := fo A a = fo A i ∧ fo B b = fo B j
instance (A B : GNode) (i j a b : Nat) : Decidable (both A B i j a b) := by unfold both; infer_instance
def putD (A B : GNode) (i j : Nat) (h : Nat → Nat → Int) (p q : Nat) : Nat → Nat → Int :=
 if 0 < p ∧ 0 < q ∧ both A B i j (fo A i + p - 1) (fo B j + q - 1) then upd h (fo A i + p - 1) (fo B j + q - 1) (Dd A B (fo A i + p - 1) (fo B j + q - 1) : Nat) else h
def Keeps (A B : GNode) (h0 h : Nat → Nat → Int) : Prop := ∀ a b, h a b = h0 a b ∨ h a b = (Dd A B a b : Nat)
theorem Keeps.put {A B : GNode} {i j : Nat} {h0 h : Nat → Nat → Int} (k : Keeps A B h0 h) (p q : Nat) : Keeps A B h0 (putD A B i j h p q) := by
 intro a b
 unfold putD
 split
 ·unfold upd
  split
  ·rename_i e; right; rw [e.1, e.2]
  ·exact k a b
 ·exact k a b
def Asks (A B : GNode) (i j : Nat) (h : Nat → Nat → Int) : Prop := ∀ a b, fo A i ≤ a → a ≤ i → fo B j ≤ b → b ≤ j → ¬ both A B i j a b → h a b = (Dd A B a b : Nat)
theorem Asks.keep {A B : GNode} {i j : Nat} {h0 h : Nat → Nat → Int} (k : Keeps A B h0 h) (s : Asks A B i j h0) : Asks A B i j h := by
 intro a b h1 h2 h3 h4 h5
 rcases k a b with e | e
 ·rw [e]; exact s a b h1 h2 h3 h4 h5
 ·exact e
def Gives (A B : GNode) (i j : Nat) (h : Nat → Nat → Int) : Prop := ∀ a b, fo A i ≤ a → a ≤ i → fo B j ≤ b → b ≤ j → both A B i j a b → h a b = (Dd A B a b : Nat)
def Fil (N M : GNode) (p0 q0 p q : Nat) (f : Nat → Nat → Int) : Prop := ∀ p' q', p' ≤ nz N → q' ≤ nz M → (p' < p0 ∨ q' < q0 ∨ p' < p ∨ p' = p ∧ q' < q) → f p' q' = (Wd N M p' q' : Nat)
theorem pass {ρ σ : Type} {A B N M : GNode} {i j : Nat} (hN : (po A)[i]? = some N) (hM : (po B)[j]? = some M) (p0 q0 : Nat) (hq0 : q0 ≤ 1) (hp0 : p0 ≤ 1)
  (L : σ → (Nat → Nat → Int) → (Nat → Nat → Int) → Nat → Nat → Option ρ) (Row : (Nat → Nat → Int) → (Nat → Nat → Int) → Nat → Option ρ) (fin : (Nat → Nat → Int) → Option ρ)
  (hstep : ∀ s f h p q, p0 ≤ p → p ≤ nz N → q0 ≤ q → q ≤ nz M → Fil N M p0 q0 p q f → Asks A B i j h → L s f h p q = L s (upd f p q (Wd N M p q : Nat)) (putD A B i j h p q) p (q + 1))
  (hend : ∀ s f h p, p0 ≤ p → p ≤ nz N → L s f h p (nz M + 1) = Row f h (p + 1))
  (hrow : ∀ f h p, p0 ≤ p → p ≤ nz N → ∃ s, Row f h p = L s f h p q0)
  (hfin : ∀ f h, Row f h (nz N + 1) = fin h) (f0 h0 : Nat → Nat → Int) (hf : Fil N M p0 q0 p0 q0 f0) (ha : Asks A B i j h0) :
  ∃ h1, Row f0 h0 p0 = fin h1 ∧ Keeps A B h0 h1 ∧ Gives A B i j h1 := by
 have hs1 := po_sub hN
 have hs2 := po_sub hM
 have eA := fo_eq hN
 have eB := fo_eq hM
 let Wr := fun (p q : Nat) (h : Nat → Nat → Int) => ∀ a b, fo A i ≤ a → a ≤ i → fo B j ≤ b → b ≤ j → both A B i j a b → (a - fo A i + 1 < p ∨ a - fo A i + 1 = p ∧ b - fo B j + 1 < q) → h a b = (Dd A B a b : Nat)
 have rows : ∀ (d p : Nat), nz N + 1 - p = d → p0 ≤ p → p ≤ nz N + 1 → ∀ f h, Fil N M p0 q0 p q0 f → Keeps A B h0 h → Wr p q0 h → ∃ h1, Row f h p = fin h1 ∧ Keeps A B h0 h1 ∧ Gives A B i j h1 := by
  intro d
  induction d with
  | zero =>
   intro p hd hp0' hp f h hf hk hw
   have e : p = nz N + 1 := by omega
   subst e
   exact ⟨h, hfin f h, hk, fun a b h1 h2 h3 h4 h5 => hw a b h1 h2 h3 h4 h5 (.inl (by omega))⟩
  | succ d ih =>
   intro p hd hp0' hp f h hf hk hw
   have hpN : p ≤ nz N := by omega
   obtain ⟨s, es⟩ := hrow f h p hp0' hpN
   rw [es]
   have cols : ∀ (e q : Nat), nz M + 1 - q = e → q0 ≤ q → q ≤ nz M + 1 → ∀ f h, Fil N M p0 q0 p q f → Keeps A B h0 h → Wr p q h → ∃ h1, L s f h p q = fin h1 ∧ Keeps A B h0 h1 ∧ Gives A B i j h1 := by
    intro e
    induction e with
    | zero =>
     intro q he hq0' hq f h hf hk hw
     have e : q = nz M + 1 := by omega
     subst e
     rw [hend s f h p hp0' hpN]
     refine ih (p + 1) (by omega) (by omega) (by omega) f h (fun p' q' h1 h2 h3 => hf p' q' h1 h2 ?_) hk (fun a b h1 h2 h3 h4 h5 h6 => hw a b h1 h2 h3 h4 h5 ?_)
     ·rcases h3 with h3 | h3 | h3 | h3
      ·exact .inl h3
      ·exact .inr (.inl h3)
      ·rcases Nat.lt_or_ge p' p with h4 | h4
       ·exact .inr (.inr (.inl h4))
       ·exact .inr (.inr (.inr ⟨by omega, by omega⟩))
      ·exact .inr (.inl h3.2)
     ·rcases h6 with h6 | h6
      ·rcases Nat.lt_or_ge (a - fo A i + 1) p with h7 | h7
       ·exact .inl h7
       ·exact .inr ⟨by omega, by omega⟩
      ·have := h6.2; omega
    | succ e ihe =>
     intro q he hq0' hq f h hf hk hw
     have hqM : q ≤ nz M := by omega
     rw [hstep s f h p q hp0' hpN hq0' hqM hf (ha.keep hk)]
     refine ihe (q + 1) (by omega) (by omega) (by omega) _ _ (fun p' q' h1 h2 h3 => ?_) (hk.put p q) (fun a b h1 h2 h3 h4 h5 h6 => ?_)
     ·unfold upd
      by_cases e : p' = p ∧ q' = q
      ·rw [if_pos e, e.1, e.2]
      ·rw [if_neg e]
       refine hf p' q' h1 h2 ?_
       rcases h3 with h3 | h3 | h3 | h3
       ·exact .inl h3
       ·exact .inr (.inl h3)
       ·exact .inr (.inr (.inl h3))
       ·exact .inr (.inr (.inr ⟨h3.1, by have := h3.2; have : q' ≠ q := fun hq => e ⟨h3.1, hq⟩; omega⟩))
     ·unfold putD
      by_cases e : a - fo A i + 1 = p ∧ b - fo B j + 1 = q
      ·have ea : fo A i + p - 1 = a := by omega
       have eb : fo B j + q - 1 = b := by omega
       rw [ea, eb, if_pos ⟨by omega, by omega, h5⟩]
       simp [upd]
      ·have old : h a b = (Dd A B a b : Nat) := hw a b h1 h2 h3 h4 h5 (by rcases h6 with h6 | h6; exact .inl h6; exact .inr ⟨h6.1, by have := h6.2; have : b - fo B j + 1 ≠ q := fun hq => e ⟨h6.1, hq⟩; omega⟩)
       split
       ·unfold upd
        split
        ·rename_i e2; rw [e2.1, e2.2]
        ·exact old
       ·exact old
   exact cols (nz M + 1 - q0) q0 rfl (Nat.le_refl _) (by omega) f h hf hk hw
 refine rows (nz N + 1 - p0) p0 rfl (Nat.le_refl _) (by omega) f0 h0 hf (fun a b => .inl rfl) ?_
 intro a b h1 h2 h3 h4 h5 h6
 rcases h6 with h6 | h6 <;> omega
end TT
