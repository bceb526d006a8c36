import Derived.Test.YtjnjaaimgdjcgaaGreatDoorTKK
import Derived.Test.YtjnjaaimgdjcgaaGreatDoorTHX4
import Derived.Test.YtjnjaaimgdjcgaaGreatDoorTD25
import Derived.Test.YtjnjaaimgdjcgaaGreatDoorTE
import Derived.KernelRfl
import Derived.Test.YtjnjaaimgdjcgaaGreatDoorTSH
import Derived.Test.YtjnjaaimgdjcgaaGreatDoorTCC
import Derived.Test.YtjnjaaimgdjcgaaGreatDoorTSO
import Derived.Test.YtjnjaaimgdjcgaaGreatDoorTFI
set_option maxRecDepth 100000
namespace TT
open Go Go.Proofs
abbrev GG : Gt := (Gt.and (u8G 1 2) (Gt.and (lenG 0) (tabG Tryz.prog "unicode.asciiFold" .u16 foldL 3 (by kernel_rfl))))
theorem cat_said_Node : CatSaid3 Tryz.prog 195 8 144 36 := by
 intro sb so sc q1 q2 q3 n1 c1 n2 c2 n3 c3 us1 us2 us3 w hs1 hs2 hs3 hb hn hl1 hl2 hl3 ho1 ho2 ho3 hq1 hq2 hq3
 obtain ⟨e, i, z, ht, hi, hz, hzs, hsz, hbyt, h0⟩ := appB_spec (P := Tryz.prog) (t := 34) (sz := 8) (byt := 144) (by kernel_rfl)
 obtain rfl : e = 36 := by have h := ht.symm.trans Tryz.underlying34; injection h with h; injection h
 have h := cat3_walkNode Tryz.growNode rfl rfl hi hz (by omega) hzs sb so sc q1 q2 q3 n1 c1 n2 c2 n3 c3 us1 us2 us3 w hs1 hs2 hs3 (by rw [hbyt]; exact hb) hn (by rw [hsz]; exact hl1) (by rw [hsz]; exact hl2) (by rw [hsz]; exact hl3) ho1 ho2 ho3 hq1 hq2 hq3
 rw [hsz] at h
 exact h
theorem cat_said_Decl : CatSaid Tryz.prog 196 2 32 99 := by
 intro sb so sc q1 q2 n1 c1 n2 c2 us1 us2 w hs1 hs2 hb hn hl1 hl2 ho1 ho2 hq1 hq2
 obtain ⟨e, i, z, ht, hi, hz, hzs, hsz, hbyt, h0⟩ := appB_spec (P := Tryz.prog) (t := 32) (sz := 2) (byt := 32) (by kernel_rfl)
 obtain rfl : e = 99 := by have h := ht.symm.trans Tryz.underlying32; injection h with h; injection h
 have h := cat_walkDecl Tryz.growDecl rfl rfl hi hz (by omega) hzs sb so sc q1 q2 n1 c1 n2 c2 us1 us2 w hs1 hs2 (by rw [hbyt]; exact hb) hn (by rw [hsz]; exact hl1) (by rw [hsz]; exact hl2) ho1 ho2 hq1 hq2
 rw [hsz] at h
 exact h
theorem soundL : ∀ p ∈ FTA.lb, Sound1 GG Tryz.prog p.1 p.2 := fun p hp => by
 simp only [FTA, List.mem_cons, List.not_mem_nil, or_false] at hp
 rcases hp with rfl | rfl | rfl | rfl | rfl | rfl
 ·exact x_fits_sound (by kernel_rfl) (fit_said cat_said_Decl space_said)
 ·exact x_contains_sound (fun B w h => h.2.1.2) (by kernel_rfl) Tryz.strings_Contains
 ·exact x_fold_sound (ρ := Tryz.lays164_ren) Tryz.lays164 (fun B w h => h.2.2.2) (by kernel_rfl) (by kernel_rfl)
 ·exact x_decode_soundG (fun B w h => h.1.2.2) (by kernel_rfl) Tryz.utf8_DecodeRuneInString
 ·exact x_compare_sound (by kernel_rfl) Tryz.strings_Compare
 ·exact x_concat3_sound (by decide) (by kernel_rfl) cat_said_Node
end TT
