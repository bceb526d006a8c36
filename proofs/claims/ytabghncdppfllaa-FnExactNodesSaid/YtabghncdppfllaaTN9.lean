import Derived.Test.YtabghncdppfllaaTN8
set_option linter.unusedVariables false
set_option linter.unusedSimpArgs false
set_option maxRecDepth 20000
namespace TT
open Go
variable (FT : FTab)

def Decl.fine (x : Decl) : Prop := x.a.size ≤ maxLen ∧ x.b.size ≤ maxLen
def Attr.fine (x : Attr) : Prop := x.a.size ≤ maxLen ∧ x.b.size ≤ maxLen ∧ x.c.size ≤ maxLen ∧ x.d.size ≤ maxLen
mutual
/-- No string is longer than a machine bears. -/
def Node.fine : Node → Prop
  | .mk k a b c ds as ks t => a.size ≤ maxLen ∧ b.size ≤ maxLen ∧ c.size ≤ maxLen ∧ t.size ≤ maxLen ∧ (∀ d ∈ ds, d.fine) ∧ (∀ d ∈ as, d.fine) ∧ fineL ks
def fineL : List Node → Prop
  | [] => True
  | n :: ns => n.fine ∧ fineL ns
end

theorem sub_wrap {l : Int} {x : Nat} (h0 : 0 ≤ l) (h1 : l ≤ 1048576) (hx : x ≤ maxLen) : IntKind.i64.wrap (l - x) = l - x := by
  have hm : maxLen = 9223372036854775807 := rfl
  rw [IntKind.wrap_i64]; omega

theorem szDecl_le {x : Decl} {l : Int} (hf : x.fine) (h0 : 0 ≤ l) (h1 : l ≤ 1048576) (h : ¬ szDecl x l < 0) : szDecl x l ≤ l := by
  unfold szDecl at h ⊢
  simp only at h ⊢
  rw [sub_wrap h0 h1 hf.1] at h ⊢
  split
  · omega
  · rename_i h2
    rw [if_neg h2] at h
    rw [sub_wrap (by omega) (by omega) hf.2] at h ⊢
    split <;> omega
theorem szAttr_le {x : Attr} {l : Int} (hf : x.fine) (h0 : 0 ≤ l) (h1 : l ≤ 1048576) (h : ¬ szAttr x l < 0) : szAttr x l ≤ l := by
  unfold szAttr at h ⊢
  simp only at h ⊢
  rw [sub_wrap h0 h1 hf.1] at h ⊢
  split
  · omega
  · rename_i h2
    rw [if_neg h2] at h
    rw [sub_wrap (by omega) (by omega) hf.2.1] at h ⊢
    split
    · omega
    · rename_i h3
      rw [if_neg h3] at h
      rw [sub_wrap (by omega) (by omega) hf.2.2.1] at h ⊢
      split
      · omega
      · rename_i h4
        rw [if_neg h4] at h
        rw [sub_wrap (by omega) (by omega) hf.2.2.2] at h ⊢
        split <;> omega

theorem szDeclL_le : ∀ {ds : List Decl} {l r : Int}, (∀ d ∈ ds, d.fine) → 0 ≤ l → l ≤ 1048576 → szDeclL ds l = some r → 0 ≤ r ∧ r ≤ l
  | [], l, r, hf, h0, h1, h => by simp only [szDeclL, Option.some.injEq] at h; omega
  | d :: ds, l, r, hf, h0, h1, h => by
    simp only [szDeclL] at h
    split at h
    · cases h
    · rename_i h2
      have h3 := szDecl_le (hf d (List.mem_cons_self ..)) h0 h1 h2
      have := szDeclL_le (fun x hx => hf x (List.mem_cons_of_mem _ hx)) (by omega) (by omega) h
      omega
theorem szDeclS_le {ds : List Decl} {l : Int} (hf : ∀ d ∈ ds, d.fine) (hn : ds.length ≤ maxLen) (h0 : 0 ≤ l) (h1 : l ≤ 1048576) (h : ¬ szDeclS ds l < 0) : szDeclS ds l ≤ l ∧ ds.length ≤ 1048576 := by
  unfold szDeclS at h ⊢
  simp only at h ⊢
  rw [sub_wrap h0 h1 hn] at h ⊢
  split
  · rename_i h2; rw [if_pos h2] at h; omega
  · rename_i h2
    rw [if_neg h2] at h
    cases hr : szDeclL ds (l - ds.length) with
    | none => rw [hr] at h; simp at h
    | some r =>
      have := szDeclL_le hf (by omega) (by omega) hr
      simp
      omega
theorem szAttrL_le : ∀ {ds : List Attr} {l r : Int}, (∀ d ∈ ds, d.fine) → 0 ≤ l → l ≤ 1048576 → szAttrL ds l = some r → 0 ≤ r ∧ r ≤ l
  | [], l, r, hf, h0, h1, h => by simp only [szAttrL, Option.some.injEq] at h; omega
  | d :: ds, l, r, hf, h0, h1, h => by
    simp only [szAttrL] at h
    split at h
    · cases h
    · rename_i h2
      have h3 := szAttr_le (hf d (List.mem_cons_self ..)) h0 h1 h2
      have := szAttrL_le (fun x hx => hf x (List.mem_cons_of_mem _ hx)) (by omega) (by omega) h
      omega
theorem szAttrS_le {ds : List Attr} {l : Int} (hf : ∀ d ∈ ds, d.fine) (hn : ds.length ≤ maxLen) (h0 : 0 ≤ l) (h1 : l ≤ 1048576) (h : ¬ szAttrS ds l < 0) : szAttrS ds l ≤ l ∧ ds.length ≤ 1048576 := by
  unfold szAttrS at h ⊢
  simp only at h ⊢
  rw [sub_wrap h0 h1 hn] at h ⊢
  split
  · rename_i h2; rw [if_pos h2] at h; omega
  · rename_i h2
    rw [if_neg h2] at h
    cases hr : szAttrL ds (l - ds.length) with
    | none => rw [hr] at h; simp at h
    | some r =>
      have := szAttrL_le hf (by omega) (by omega) hr
      simp
      omega

theorem szNode_split (k : Int) (a b c : ByteArray) (ds : List Decl) (as : List Attr) (ks : List Node) (t : ByteArray) (l : Int) (h : ¬ szNode (.mk k a b c ds as ks t) l < 0) :
    ∃ l1 l2 l3 l4 l5 l6, l1 = IntKind.i64.wrap (l - a.size) ∧ ¬ l1 < 0 ∧ l2 = IntKind.i64.wrap (l1 - b.size) ∧ ¬ l2 < 0 ∧ l3 = IntKind.i64.wrap (l2 - c.size) ∧ ¬ l3 < 0 ∧ l4 = szDeclS ds l3 ∧ ¬ l4 < 0 ∧ l5 = szAttrS as l4 ∧ ¬ l5 < 0 ∧
      l6 = szNodeS ks l5 ∧ ¬ l6 < 0 ∧ szNode (.mk k a b c ds as ks t) l = IntKind.i64.wrap (l6 - t.size) := by
  have step : ∀ (p : Prop) [Decidable p] (x : Int), ¬ (if p then -1 else x) < 0 → ¬ p ∧ (if p then -1 else x) = x := by
    intro p _ x hx
    by_cases hp : p
    · rw [if_pos hp] at hx; omega
    · exact ⟨hp, if_neg hp⟩
  simp only [szNode] at h ⊢
  obtain ⟨h1, e1⟩ := step _ _ h
  rw [e1] at h ⊢
  obtain ⟨h2, e2⟩ := step _ _ h
  rw [e2] at h ⊢
  obtain ⟨h3, e3⟩ := step _ _ h
  rw [e3] at h ⊢
  obtain ⟨h4, e4⟩ := step _ _ h
  rw [e4] at h ⊢
  obtain ⟨h5, e5⟩ := step _ _ h
  rw [e5] at h ⊢
  simp only [szEnd] at h ⊢
  obtain ⟨h6, e6⟩ := step _ _ h
  rw [e6] at h ⊢
  obtain ⟨h7, e7⟩ := step _ _ h
  rw [e7]
  exact ⟨_, _, _, _, _, szNodeS ks _, rfl, h1, rfl, h2, rfl, h3, rfl, h4, rfl, h5, rfl, h6, rfl⟩

mutual
theorem szNode_le : ∀ (n : Node) {l : Int}, n.ok → n.fine → 0 ≤ l → l ≤ 1048576 → ¬ szNode n l < 0 → n.small ∧ szNode n l ≤ l
  | .mk k a b c ds as ks t, l, hok, hf, h0, hl, h => by
    obtain ⟨l1, l2, l3, l4, l5, l6, e1, h1, e2, h2, e3, h3, e4, h4, e5, h5, e6, h6, e7⟩ := szNode_split k a b c ds as ks t l h
    simp only [Node.ok] at hok
    simp only [Node.fine] at hf
    obtain ⟨f1, f2, f3, f4, f5, f6, f7⟩ := hf
    rw [e7] at h ⊢
    rw [sub_wrap h0 hl f1] at e1
    rw [sub_wrap (by omega) (by omega) f2] at e2
    rw [sub_wrap (by omega) (by omega) f3] at e3
    have g4 := szDeclS_le f5 hok.1 (show 0 ≤ l3 by omega) (by omega) (by rw [← e4]; exact h4)
    rw [← e4] at g4
    have g5 := szAttrS_le f6 hok.2.1 (show 0 ≤ l4 by omega) (by omega) (by rw [← e5]; exact h5)
    rw [← e5] at g5
    have g6 := szNodeS_le ks hok.2.2.1 hok.2.2.2 f7 (show 0 ≤ l5 by omega) (by omega) (by rw [← e6]; exact h6)
    rw [← e6] at g6
    rw [sub_wrap (by omega) (by omega) f4] at h ⊢
    refine ⟨?_, by omega⟩
    simp only [Node.small]
    exact ⟨g4.2, g5.2, g6.2.1, g6.2.2⟩
theorem szNodeS_le : ∀ (ns : List Node) {l : Int}, ns.length ≤ maxLen → okL ns → fineL ns → 0 ≤ l → l ≤ 1048576 → ¬ szNodeS ns l < 0 → szNodeS ns l ≤ l ∧ ns.length ≤ 1048576 ∧ smallL ns
  | ns, l, hn, hok, hf, h0, hl, h => by
    unfold szNodeS at h ⊢
    rw [sub_wrap h0 hl hn] at h ⊢
    by_cases h2 : l - (ns.length : Int) < 0
    · rw [if_pos h2] at h; omega
    · rw [if_neg h2] at h ⊢
      cases hr : szNodeL ns (l - ns.length) with
      | none => rw [hr] at h; simp at h
      | some r =>
        have := szNodeL_le ns hok hf (by omega) (by omega) hr
        simp
        exact ⟨by omega, by omega, this.2.2⟩
theorem szNodeL_le : ∀ (ns : List Node) {l r : Int}, okL ns → fineL ns → 0 ≤ l → l ≤ 1048576 → szNodeL ns l = some r → 0 ≤ r ∧ r ≤ l ∧ smallL ns
  | [], l, r, hok, hf, h0, h1, h => by simp only [szNodeL, Option.some.injEq] at h; simp only [smallL]; exact ⟨by omega, by omega, trivial⟩
  | n :: ns, l, r, hok, hf, h0, h1, h => by
    simp only [okL] at hok
    simp only [fineL] at hf
    simp only [szNodeL] at h
    split at h
    · cases h
    · rename_i h2
      have h3 := szNode_le n hok.1 hf.1 h0 h1 h2
      have h4 := szNodeL_le ns hok.2 hf.2 (by omega) (by omega) h
      simp only [smallL]
      exact ⟨h4.1, by omega, h3.1, h4.2.2⟩
end

end TT
