import Derived.Test.YtaeegkjcjlnanaaGreatDoorTKK
import Derived.Test.YtaeegkjcjlnanaaGreatDoorTHX4
import Derived.Test.YtaeegkjcjlnanaaGreatDoorTD25
import Derived.Test.YtaeegkjcjlnanaaGreatDoorTE
import Derived.KernelRfl
import Derived.Test.YtaeegkjcjlnanaaGreatDoorTSH
import Derived.Test.YtaeegkjcjlnanaaGreatDoorTCC
import Derived.Test.YtaeegkjcjlnanaaGreatDoorTSO
import Derived.Test.YtaeegkjcjlnanaaGreatDoorTFI
set_option maxRecDepth 100000
namespace TT
open Go Go.Proofs
abbrev GG : Gt := (Gt.and (u8G 3 4) (Gt.and (A0p 5) (A0q Tryz.prog "unicode.asciiFold" .u16 foldL 0 (by kernel_rfl))))
theorem gw : Rq Tryz.prog 85 1 8 3 := by
 intro sb so sc q1 q2 n1 c1 n2 c2 us1 us2 w hs1 hs2 hb hn hl1 hl2 ho1 ho2 hq1 hq2
 obtain ⟨e, i, z, ht, hi, hz, hzs, hsz, hbyt, h0⟩ := Vk (P := Tryz.prog) (t := 29) (sz := 1) (byt := 8) (by kernel_rfl)
 obtain rfl : e = 3 := by have h := ht.symm.trans Tryz.underlying29; injection h with h; injection h
 have h := jO Tryz.growInt rfl rfl hi hz (by omega) hzs sb so sc q1 q2 n1 c1 n2 c2 us1 us2 w hs1 hs2 (by rw [hbyt]; exact hb) hn (by rw [hsz]; exact hl1) (by rw [hsz]; exact hl2) ho1 ho2 hq1 hq2
 rw [hsz] at h
 exact h
theorem cR : Rq Tryz.prog 137 2 32 88 := by
 intro sb so sc q1 q2 n1 c1 n2 c2 us1 us2 w hs1 hs2 hb hn hl1 hl2 ho1 ho2 hq1 hq2
 obtain ⟨e, i, z, ht, hi, hz, hzs, hsz, hbyt, h0⟩ := Vk (P := Tryz.prog) (t := 24) (sz := 2) (byt := 32) (by kernel_rfl)
 obtain rfl : e = 88 := by have h := ht.symm.trans Tryz.underlying24; injection h with h; injection h
 have h := fP Tryz.growDecl rfl rfl hi hz (by omega) hzs sb so sc q1 q2 n1 c1 n2 c2 us1 us2 w hs1 hs2 (by rw [hbyt]; exact hb) hn (by rw [hsz]; exact hl1) (by rw [hsz]; exact hl2) ho1 ho2 hq1 hq2
 rw [hsz] at h
 exact h
theorem zk : ∀ p ∈ AG.lb, OA GG Tryz.prog p.1 p.2 := fun p hp => by
 simp only [AG, List.mem_cons, List.not_mem_nil, or_false] at hp
 rcases hp with rfl | rfl | rfl | rfl | rfl | rfl
 ·exact Yz (by decide) (by kernel_rfl) gw
 ·exact fN (by kernel_rfl) (sj cR lq)
 ·exact Vp (fun B w h => h.2.1.2) (by kernel_rfl) Tryz.strings_Contains
 ·exact fM (ρ := Tryz.lays164_ren) Tryz.lays164 (fun B w h => h.2.2.2) (by kernel_rfl) (by kernel_rfl)
 ·exact XY (fun B w h => h.1.2.2) (by kernel_rfl) Tryz.utf8_DecodeRuneInString
 ·exact XZ (by kernel_rfl) Tryz.strings_Compare
end TT
