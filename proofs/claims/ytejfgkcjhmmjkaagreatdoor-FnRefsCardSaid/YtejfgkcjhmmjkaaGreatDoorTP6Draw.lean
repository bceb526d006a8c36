import Derived.Test.YtejfgkcjhmmjkaaGreatDoorTP3Cur
import Derived.Test.YtejfgkcjhmmjkaaGreatDoorTP2Expand
set_option linter.unusedVariables false
set_option linter.unusedSimpArgs false
namespace TT
open Go
theorem down_nat {a : Int} {n : Nat} (h0 : 0 ≤ a) (h1 : a < n ∨ a = 0) (hn : 0 < n) : ∃ k : Nat, a = k ∧ k < n := ⟨a.toNat, by omega, by omega⟩
theorem text_l24 : ∀ (m : Nat) (s : ByteArray) (c : Gl1Cur), Cok c → s.size ≤ 601 → 601 - s.size ≤ m → Tot (spec_l1Text_l24 s c) fun r => r.1.size ≤ 601 ∧ Cok r.2
 | 0, s, c, hc, h1, h2 => by
  rw [spec_l1Text_l24]
  refine (l1Int_tot c hc _ (by decide)).bnd fun r hr => ?_
  have hv : r.1 = 600 ∨ r.1 = 601 := by simpa using hr.1
  rw [ltI_f (by simp only [lenS]; omega), if_neg Bool.false_ne_true]
  exact Tot.ret ⟨h1, hr.2⟩
 | m + 1, s, c, hc, h1, h2 => by
  rw [spec_l1Text_l24]
  refine (l1Int_tot c hc _ (by decide)).bnd fun r hr => ?_
  have hv : r.1 = 600 ∨ r.1 = 601 := by simpa using hr.1
  by_cases h : (s.size : Int) < r.1
  ·rw [ltI_t (by simp only [lenS]; exact h), if_pos rfl, cat_ok (by show s.size + 1 ≤ _; omega)]
   have e : (s ++ (⟨#[120]⟩ : ByteArray)).size = s.size + 1 := app_size s ⟨#[120]⟩
   exact text_l24 m _ _ hr.2 (by rw [e]; omega) (by rw [e]; omega)
  ·rw [ltI_f (by simp only [lenS]; exact h), if_neg Bool.false_ne_true]
   exact Tot.ret ⟨h1, hr.2⟩
theorem text_l8 : ∀ (k : Nat) (s : ByteArray) (c : Gl1Cur), Cok c → s.size + 4 * k ≤ 100 → Tot (spec_l1Text_l8 s (k : Int) c) fun r => r.1.size ≤ 601 ∧ Cok r.2
 | 0, s, c, hc, h => by
  rw [spec_l1Text_l8, gtI_f (by omega), if_neg Bool.false_ne_true]
  refine (l1Once_tot c hc 40).bnd fun r hr => Tot.ite (fun _ => ?_) fun _ => Tot.ret ⟨by show s.size ≤ 601; omega, hr⟩
  exact text_l24 601 s _ hr (by omega) (by omega)
 | k + 1, s, c, hc, h => by
  rw [spec_l1Text_l8, gtI_t (by omega), if_pos rfl]
  refine (l1Str_tot c hc _ (by decide)).bnd fun r hr => ?_
  have hz : r.1.size ≤ 4 := by
   have := hr.1
   simp only [List.mem_cons, List.not_mem_nil, or_false] at this
   rcases this with h | h | h | h | h | h | h | h | h | h | h | h | h | h | h | h | h | h | h | h <;> (rw [h]; decide)
  rw [cat_ok (by omega)]
  have e := app_size s r.1
  have ek : subI ((k + 1 : Nat) : Int) 1 = (k : Int) := by
   by_cases hk : k < 1000
   ·rw [subI_eq (by omega) (by omega)]; omega
   ·omega
  rw [ek]
  exact text_l8 k _ _ hr.2 (by rw [e]; omega)
theorem text_tot (c : Gl1Cur) (hc : Cok c) : Tot (spec_l1Text c) fun r => r.1.size ≤ 601 ∧ Cok r.2 := by
 rw [spec_l1Text]
 refine (l1Below_tot c hc 4).bnd fun r hr => ?_
 obtain ⟨k, e, hk⟩ := down_nat (n := 4) hr.1 hr.2.1 (by decide)
 rw [e]
 exact text_l8 k _ _ hr.2.2 (by show 0 + 4 * k ≤ 100; omega)
theorem refs_l8 : ∀ (k : Nat) (s : ByteArray) (c : Gl1Cur), Cok c → s.size + 12 * k ≤ 100 → Tot (spec_l3Refs_l8 s (k : Int) c) fun r => r.1.size ≤ 100 ∧ Cok r.2
 | 0, s, c, hc, h => by
  rw [spec_l3Refs_l8, gtI_f (by omega), if_neg Bool.false_ne_true]
  exact Tot.ret ⟨by show s.size ≤ 100; omega, hc⟩
 | k + 1, s, c, hc, h => by
  rw [spec_l3Refs_l8, gtI_t (by omega), if_pos rfl]
  refine (l1Str_tot c hc _ (by decide)).bnd fun r hr => ?_
  have hz : r.1.size ≤ 12 := by
   have := hr.1
   simp only [List.mem_cons, List.not_mem_nil, or_false] at this
   rcases this with h | h | h | h | h | h | h | h | h | h | h | h | h | h | h | h | h | h | h | h | h | h | h | h | h <;> (rw [h]; decide)
  rw [cat_ok (by omega)]
  have e := app_size s r.1
  have ek : subI ((k + 1 : Nat) : Int) 1 = (k : Int) := by rw [subI_eq (by omega) (by omega)]; omega
  rw [ek]
  exact refs_l8 k _ _ hr.2 (by rw [e]; omega)
theorem refs_tot (c : Gl1Cur) (hc : Cok c) : Tot (spec_l3Refs c) fun r => r.1.size ≤ 100 ∧ Cok r.2 := by
 rw [spec_l3Refs]
 refine (l1Below_tot c hc 5).bnd fun r hr => ?_
 obtain ⟨k, e, hk⟩ := down_nat (n := 5) hr.1 hr.2.1 (by decide)
 rw [e]
 exact refs_l8 k _ _ hr.2.2 (by show 0 + 12 * k ≤ 100; omega)
def Small (l : List GEnt) : Prop := ∀ e ∈ l, e.Name.size ≤ 1000 ∧ e.Val.size ≤ 1000
theorem Small.add {l : List GEnt} (h : Small l) {e : GEnt} (he : e.Name.size ≤ 1000 ∧ e.Val.size ≤ 1000) : Small (l ++ [e]) := fun x hx => by
 rcases List.mem_append.1 hx with hx | hx
 ·exact h x hx
 ·rw [List.mem_singleton.1 hx]; exact he
theorem ents_j19 (l : List GEnt) (c : Gl1Cur) (hc : Cok c) (hl : l.length ≤ 10) (hs : Small l) : Tot (spec_l3Ents_j19 l c) fun r => r.1.length ≤ 20 ∧ Small r.1 := by
 rw [spec_l3Ents_j19]
 refine (l1Once_tot c hc 20).bnd fun r hr => Tot.ite (fun _ => ?_) fun _ => Tot.ret ⟨by show l.length ≤ 20; omega, hs⟩
 refine (Tot.room (by omega)).bnd fun _ _ => Tot.ret ⟨?_, ?_⟩
 ·simp; omega
 ·exact (((hs.add ⟨by decide, by decide⟩).add ⟨by decide, by decide⟩).add ⟨by decide, by decide⟩).add ⟨by decide, by decide⟩
theorem ents_l8 : ∀ (k : Nat) (l : List GEnt) (c : Gl1Cur), Cok c → l.length + k ≤ 5 → Small l → Tot (spec_l3Ents_l8 l (k : Int) c) fun r => r.1.length ≤ 20 ∧ Small r.1
 | 0, l, c, hc, h, hs => by
  rw [spec_l3Ents_l8, gtI_f (by omega), if_neg Bool.false_ne_true]
  refine (l1Once_tot c hc 10).bnd fun r hr => Tot.ite (fun _ => ?_) fun _ => ents_j19 l _ hr (by omega) hs
  refine (l1Str_tot _ hr _ (by decide)).bnd fun q hq => (text_tot _ hq.2).bnd fun t ht => (Tot.room (by omega)).bnd fun _ _ => ?_
  have hz : q.1.size ≤ 10 := by
   have := hq.1
   simp only [List.mem_cons, List.not_mem_nil, or_false] at this
   rcases this with h | h | h | h <;> (rw [h]; decide)
  exact ents_j19 _ _ ht.2 (by simp; omega) (hs.add ⟨by show q.1.size ≤ 1000; omega, by show t.1.size ≤ 1000; have := ht.1; omega⟩)
 | k + 1, l, c, hc, h, hs => by
  rw [spec_l3Ents_l8, gtI_t (by omega), if_pos rfl]
  refine (l1Str_tot c hc _ (by decide)).bnd fun r hr => (l1Str_tot _ hr.2 _ (by decide)).bnd fun q hq => ?_
  have hz1 : r.1.size ≤ 10 := by
   have := hr.1
   simp only [List.mem_cons, List.not_mem_nil, or_false] at this
   rcases this with h | h | h <;> (rw [h]; decide)
  have hz2 : q.1.size ≤ 10 := by
   have := hq.1
   simp only [List.mem_cons, List.not_mem_nil, or_false] at this
   rcases this with h | h <;> (rw [h]; decide)
  rw [cat_ok (by omega)]
  simp only [some_bnd]
  have e := app_size r.1 q.1
  refine (l1Str_tot _ hq.2 _ (by decide)).bnd fun v hv => (Tot.room (by omega)).bnd fun _ _ => ?_
  have hz3 : v.1.size ≤ 10 := by
   have := hv.1
   simp only [List.mem_cons, List.not_mem_nil, or_false] at this
   rcases this with h | h | h | h | h <;> (rw [h]; decide)
  have ek : subI ((k + 1 : Nat) : Int) 1 = (k : Int) := by rw [subI_eq (by omega) (by omega)]; omega
  rw [ek]
  exact ents_l8 k _ _ hv.2 (by simp; omega) (hs.add ⟨by show (r.1 ++ q.1).size ≤ 1000; omega, by show v.1.size ≤ 1000; omega⟩)
theorem ents_tot (c : Gl1Cur) (hc : Cok c) : Tot (spec_l3Ents c) fun r => r.1.length ≤ 20 ∧ Small r.1 := by
 rw [spec_l3Ents]
 refine (l1Below_tot c hc 3).bnd fun r hr => ?_
 obtain ⟨k, e, hk⟩ := down_nat (n := 3) hr.1 hr.2.1 (by decide)
 rw [e]
 exact ents_l8 k _ _ hr.2.2 (by simp; omega) fun x hx => by cases hx
theorem drawEsc_tot (code : List Int) (hl : code.length ≤ 1048576) : Tot (spec_DrawEscText code) fun s => s.size ≤ 601 := by
 rw [spec_DrawEscText]
 exact (l1New_tot code hl).bnd fun c hc => (text_tot c hc).bnd fun t ht => Tot.ret ht.1
theorem drawExp_tot (code : List Int) (hl : code.length ≤ 1048576) : Tot (spec_DrawExpand code) fun r => r.1.size ≤ 800 ∧ r.2.length ≤ 20 ∧ Small r.2 := by
 rw [spec_DrawExpand]
 refine (l1New_tot code hl).bnd fun c hc => (refs_tot c hc).bnd fun r hr => (l1Once_tot _ hr.2 8).bnd fun o ho => Tot.ite (fun _ => ?_) fun _ => ?_
 ·refine (text_tot _ ho).bnd fun t ht => ?_
  have h1 := hr.1
  have h2 := ht.1
  rw [cat_ok (by omega)]
  simp only [some_bnd]
  exact (ents_tot _ ht.2).bnd fun e he => Tot.ret ⟨by show (r.1 ++ t.1).size ≤ 800; rw [app_size]; omega, he.1, he.2⟩
 ·exact (ents_tot _ ho).bnd fun e he => Tot.ret ⟨by show r.1.size ≤ 800; have := hr.1; omega, he.1, he.2⟩
end TT
