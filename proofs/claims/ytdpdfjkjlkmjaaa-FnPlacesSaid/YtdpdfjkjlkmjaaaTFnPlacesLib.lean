import Derived.Test.YtdpdfjkjlkmjaaaTKK
import Derived.Test.YtdpdfjkjlkmjaaaTHX4
import Derived.Test.YtdpdfjkjlkmjaaaTD25
import Derived.Test.YtdpdfjkjlkmjaaaTE
import Derived.KernelRfl
import Derived.Test.YtdpdfjkjlkmjaaaTSH
import Derived.Test.YtdpdfjkjlkmjaaaTCC
set_option maxRecDepth 100000
namespace TT
open Go Go.Proofs
abbrev GG : Gt := Gt.triv
theorem cat_said_Int : CatSaid Try.prog 119 1 8 3 := by
 intro sb so sc q1 q2 n1 c1 n2 c2 us1 us2 w hs1 hs2 hb hn hl1 hl2 ho1 ho2 hq1 hq2
 obtain ⟨e, i, z, ht, hi, hz, hzs, hsz, hbyt, h0⟩ := appB_spec (P := Try.prog) (t := 35) (sz := 1) (byt := 8) (by kernel_rfl)
 obtain rfl : e = 3 := by have h := ht.symm.trans Try.underlying35; injection h with h; injection h
 have h := cat_walkInt Try.growInt rfl rfl hi hz (by omega) hzs sb so sc q1 q2 n1 c1 n2 c2 us1 us2 w hs1 hs2 (by rw [hbyt]; exact hb) hn (by rw [hsz]; exact hl1) (by rw [hsz]; exact hl2) ho1 ho2 hq1 hq2
 rw [hsz] at h
 exact h
theorem soundL : ∀ p ∈ FTA.lb, Sound1 GG Try.prog p.1 p.2 := fun p hp => by
 simp only [FTA, List.mem_cons, List.not_mem_nil, or_false] at hp
 subst hp
 ·exact x_concat_sound (by decide) (by kernel_rfl) cat_said_Int
end TT
