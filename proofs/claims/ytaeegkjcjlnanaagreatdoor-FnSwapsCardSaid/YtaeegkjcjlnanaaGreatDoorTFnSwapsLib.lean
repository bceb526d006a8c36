import Derived.Test.YtaeegkjcjlnanaaGreatDoorTKK
import Derived.Test.YtaeegkjcjlnanaaGreatDoorTHX4
import Derived.Test.YtaeegkjcjlnanaaGreatDoorTD25
import Derived.Test.YtaeegkjcjlnanaaGreatDoorTE
import Derived.KernelRfl
import Derived.Test.YtaeegkjcjlnanaaGreatDoorTSH
import Derived.Test.YtaeegkjcjlnanaaGreatDoorTCC
import Derived.Test.YtaeegkjcjlnanaaGreatDoorTSO
import Derived.Test.YtaeegkjcjlnanaaGreatDoorTFI
set_option maxRecDepth 100000
namespace TT
open Go Go.Proofs
abbrev GG : Gt := (Gt.and (u8G 3 4) (Gt.and (A19 5) (A1A Tryz.prog "unicode.asciiFold" .u16 foldL 0 (by kernel_rfl))))
theorem dI : jp Tryz.prog 113 8 144 28 := by
 intro sb so sc q1 q2 q3 n1 c1 n2 c2 n3 c3 us1 us2 us3 w hs1 hs2 hs3 hb hn hl1 hl2 hl3 ho1 ho2 ho3 hq1 hq2 hq3
 obtain ⟨e, i, z, ht, hi, hz, hzs, hsz, hbyt, h0⟩ := W9 (P := Tryz.prog) (t := 26) (sz := 8) (byt := 144) (by kernel_rfl)
 obtain rfl : e = 28 := by have h := ht.symm.trans Tryz.underlying26; injection h with h; injection h
 have h := cL Tryz.growNode rfl rfl hi hz (by omega) hzs sb so sc q1 q2 q3 n1 c1 n2 c2 n3 c3 us1 us2 us3 w hs1 hs2 hs3 (by rw [hbyt]; exact hb) hn (by rw [hsz]; exact hl1) (by rw [hsz]; exact hl2) (by rw [hsz]; exact hl3) ho1 ho2 ho3 hq1 hq2 hq3
 rw [hsz] at h
 exact h
theorem dJ : Yy Tryz.prog 137 2 32 88 := by
 intro sb so sc q1 q2 n1 c1 n2 c2 us1 us2 w hs1 hs2 hb hn hl1 hl2 ho1 ho2 hq1 hq2
 obtain ⟨e, i, z, ht, hi, hz, hzs, hsz, hbyt, h0⟩ := W9 (P := Tryz.prog) (t := 24) (sz := 2) (byt := 32) (by kernel_rfl)
 obtain rfl : e = 88 := by have h := ht.symm.trans Tryz.underlying24; injection h with h; injection h
 have h := fy Tryz.growDecl rfl rfl hi hz (by omega) hzs sb so sc q1 q2 n1 c1 n2 c2 us1 us2 w hs1 hs2 (by rw [hbyt]; exact hb) hn (by rw [hsz]; exact hl1) (by rw [hsz]; exact hl2) ho1 ho2 hq1 hq2
 rw [hsz] at h
 exact h
theorem A07 : ∀ p ∈ AF.lb, OV GG Tryz.prog p.1 p.2 := fun p hp => by
 simp only [AF, List.mem_cons, List.not_mem_nil, or_false] at hp
 rcases hp with rfl | rfl | rfl | rfl | rfl | rfl
 ·exact fu (by kernel_rfl) (tQ dJ mY)
 ·exact WE (fun B w h => h.2.1.2) (by kernel_rfl) Tryz.strings_Contains
 ·exact fp (ρ := Tryz.lays164_ren) Tryz.lays164 (fun B w h => h.2.2.2) (by kernel_rfl) (by kernel_rfl)
 ·exact Y3 (fun B w h => h.1.2.2) (by kernel_rfl) Tryz.utf8_DecodeRuneInString
 ·exact Y4 (by kernel_rfl) Tryz.strings_Compare
 ·exact Y5 (by decide) (by kernel_rfl) dI
end TT
