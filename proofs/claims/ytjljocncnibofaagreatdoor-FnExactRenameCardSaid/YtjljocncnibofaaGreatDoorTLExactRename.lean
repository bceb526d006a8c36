import Derived.Test.YtjljocncnibofaaGreatDoorTP7Ren
import Derived.Test.YtjljocncnibofaaGreatDoorTP2Mark
set_option linter.unusedVariables false
set_option linter.unusedSimpArgs false
namespace TT
open Go
theorem law_FnExactRename (a : GNode) (ha : a.ok) (b : List GDecl) (lb : b.length ≤ maxLen) (hb : ∀ y ∈ b, GDecl.ok y) : laws_FnExactRename a b = some true := by
 unfold laws_FnExactRename
 have s0 := sz_GNode a ha 1048576 (by omega) (by omega)
 by_cases n0 : szr 1048576 a.sz < 0
 ·simp [some_bnd, if_true, Bool.false_eq_true, if_false, s0, ltI_t n0]
 obtain ⟨a0, b0, c0⟩ := szr_le (show (0 : Int) ≤ 1048576 by omega) n0
 have s1 := sz_GDeclS b lb hb (szr 1048576 a.sz) b0 a0
 by_cases n1 : szr (szr 1048576 a.sz) (b.length + szs GDecl.sz b) < 0
 ·simp [some_bnd, if_true, Bool.false_eq_true, if_false, s0, ltI_f n0, s1, ltI_t n1]
 obtain ⟨a1, b1, c1⟩ := szr_le b0 n1
 have hsum : a.sz + (b.length + szs GDecl.sz b) ≤ 1048576 := by
  have : szr 1048576 a.sz = 1048576 - a.sz := by
   unfold szr at n0 ⊢
   split
   ·rename_i h
    rw [if_pos h] at n0
    omega
   ·rfl
  omega
 have ta := to_GNode a (by omega)
 have ea := eq_GNode a (by omega)
 have tb := to_GDeclS b (by omega) (fun y hy => by have := szs_mem GDecl.sz hy; omega)
 have eb := eq_GDeclS b (by omega) (fun y hy => by have := szs_mem GDecl.sz hy; omega)
 obtain ⟨r, hs, hi, hr⟩ := same_Rename a b hsum
 have er := eq_GNode r.1 hr
 obtain ⟨m1, x1, x2, x3, l1, l2, l3, x5⟩ := holdNode_ok a (by omega) 1 (by omega) (by omega)
 obtain ⟨m2, y1, y2, y3, y4, y5⟩ := holdDeclS_ok b (by omega) m1.1 (by omega) (by have : mB = 100000000000 := rfl; omega)
 obtain ⟨m3, z1, z2, z3, k1, k2, k3, z5⟩ := holdNode_ok r.1 hr 1 (by omega) (by omega)
 have g1 : ltI m2.1 0 = false := ltI_f (by omega)
 have g2 : ltI m3.1 0 = false := ltI_f (by omega)
 have q1 : sameL m1.2.1 a.Decls = some () := if_pos l1
 have q2 : sameL m1.2.2.1 a.Attrs = some () := if_pos l2
 have q3 : sameL m1.2.2.2 a.Kids = some () := if_pos l3
 have q4 : sameL m2.2 b = some () := if_pos y4
 have p1 : sameL m3.2.1 r.1.Decls = some () := if_pos k1
 have p2 : sameL m3.2.2.1 r.1.Attrs = some () := if_pos k2
 have p3 : sameL m3.2.2.2 r.1.Kids = some () := if_pos k3
 simp only [some_bnd, if_true, Bool.false_eq_true, if_false, s0, ltI_f n0, s1, ltI_f n1, ta, ea, tb, eb, hs, hi, er, x1, y1, z1, q1, q2, q3, q4, p1, p2, p3, z5, g1, g2, neI_self, neB_self]
end TT
