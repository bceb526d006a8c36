import Derived.Test.YtdpdfjkjlkmjaaaTKK
import Derived.Test.YtdpdfjkjlkmjaaaTHX4
import Derived.Test.YtdpdfjkjlkmjaaaTD25
import Derived.Test.YtdpdfjkjlkmjaaaTE
import Derived.KernelRfl
import Derived.Test.YtdpdfjkjlkmjaaaTSH
import Derived.Test.YtdpdfjkjlkmjaaaTCC
set_option maxRecDepth 100000
namespace TT
open Go Go.Proofs
abbrev GG : Gt := Gt.triv
theorem cat_said_Node : CatSaid3 Try.prog 137 8 144 28 := by
 intro sb so sc q1 q2 q3 n1 c1 n2 c2 n3 c3 us1 us2 us3 w hs1 hs2 hs3 hb hn hl1 hl2 hl3 ho1 ho2 ho3 hq1 hq2 hq3
 obtain ⟨e, i, z, ht, hi, hz, hzs, hsz, hbyt, h0⟩ := appB_spec (P := Try.prog) (t := 26) (sz := 8) (byt := 144) (by kernel_rfl)
 obtain rfl : e = 28 := by have h := ht.symm.trans Try.underlying26; injection h with h; injection h
 have h := cat3_walkNode Try.growNode rfl rfl hi hz (by omega) hzs sb so sc q1 q2 q3 n1 c1 n2 c2 n3 c3 us1 us2 us3 w hs1 hs2 hs3 (by rw [hbyt]; exact hb) hn (by rw [hsz]; exact hl1) (by rw [hsz]; exact hl2) (by rw [hsz]; exact hl3) ho1 ho2 ho3 hq1 hq2 hq3
 rw [hsz] at h
 exact h
theorem soundL : ∀ p ∈ FTA.lb, Sound1 GG Try.prog p.1 p.2 := fun p hp => by
 simp only [FTA, List.mem_cons, List.not_mem_nil, or_false] at hp
 subst hp
 ·exact x_concat3_sound (by decide) (by kernel_rfl) cat_said_Node
end TT
