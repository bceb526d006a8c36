import Derived.Test.YtdpdfjkjlkmjaaaTP3Copy
import Derived.Test.YtdpdfjkjlkmjaaaTP3Cur
set_option linter.unusedVariables false
set_option linter.unusedSimpArgs false
namespace TT
open Go
section
variable (l : List GNode) (hl : l.length ≤ 4000000)
include hl
end
end TT
namespace TT
open Go
structure Dok (l : List GDecl) (n : Nat) : Prop where
 len : l.length ≤ n
 each : ∀ d ∈ l, d.Pre.size ≤ 1 ∧ d.Uri.size ≤ 5
theorem Dok.push {l : List GDecl} {n : Nat} (h : Dok l n) {d : GDecl} (hd : d.Pre.size ≤ 1 ∧ d.Uri.size ≤ 5) : Dok (l ++ [d]) (n + 1) :=
 ⟨by have := h.len; simp; omega, fun x hx => by rcases List.mem_append.1 hx with hx | hx; exact h.each x hx; simp at hx; rw [hx]; exact hd⟩
theorem Dok.le {l : List GDecl} {n m : Nat} (h : Dok l n) (hm : n ≤ m) : Dok l m := ⟨Nat.le_trans h.len hm, h.each⟩
theorem Dok.sz {l : List GDecl} {n : Nat} (h : Dok l n) : szs GDecl.sz l ≤ 6 * l.length := by
 have : ∀ l : List GDecl, (∀ d ∈ l, d.Pre.size ≤ 1 ∧ d.Uri.size ≤ 5) → szs GDecl.sz l ≤ 6 * l.length := by
  intro l
  induction l with
  | nil => intro _; exact Nat.le_refl _
  | cons x l ih =>
   intro h
   have h1 := h x (List.mem_cons_self ..)
   have h2 := ih fun d hd => h d (List.mem_cons_of_mem _ hd)
   rw [szs_cons, GDecl.sz_eq, List.length_cons]; omega
 exact this l h.each
theorem str_sz {l : List ByteArray} {n : Nat} {x : ByteArray} (h : x ∈ l) (hl : ∀ y ∈ l, y.size ≤ n) : x.size ≤ n := hl x h
theorem below_nat {a n : Int} (h0 : 0 ≤ a) (h : a < n ∨ a = 0) (hn : 0 < n) : ∃ m : Nat, a = m ∧ (m : Int) < n := ⟨a.toNat, by omega, by omega⟩
structure Env1 (r3 : List GDecl) (k : Nat) : Prop where
 dok : Dok r3 k
 few : k ≤ 100000
def Aok (l : List GAttr) (n : Nat) : Prop := l.length ≤ n ∧ ∀ a ∈ l, a.sz ≤ 20
theorem Aok.push {l : List GAttr} {n : Nat} (h : Aok l n) {a : GAttr} (ha : a.sz ≤ 20) : Aok (l ++ [a]) (n + 1) :=
 ⟨by have := h.1; simp; omega, fun x hx => by rcases List.mem_append.1 hx with hx | hx; exact h.2 x hx; simp at hx; rw [hx]; exact ha⟩
theorem Aok.szs {l : List GAttr} {n : Nat} (h : Aok l n) : szs GAttr.sz l ≤ 20 * l.length := by
 have : ∀ l : List GAttr, (∀ d ∈ l, d.sz ≤ 20) → TT.szs GAttr.sz l ≤ 20 * l.length := by
  intro l
  induction l with
  | nil => intro _; exact Nat.le_refl _
  | cons x l ih =>
   intro h
   have h1 := h x (List.mem_cons_self ..)
   have h2 := ih fun d hd => h d (List.mem_cons_of_mem _ hd)
   rw [szs_cons, List.length_cons]; omega
 exact this l h.2
section
variable {in1 r3 : List GDecl} {k : Nat} (he : Env1 r3 k)
include he
end
end TT
namespace TT
open Go
end TT
