import Derived.Test.YtjljocncnibofaaGreatDoorTKK
import Derived.Test.YtjljocncnibofaaGreatDoorTHX4
import Derived.Test.YtjljocncnibofaaGreatDoorTD25
import Derived.Test.YtjljocncnibofaaGreatDoorTE
import Derived.KernelRfl
import Derived.Test.YtjljocncnibofaaGreatDoorTSH
import Derived.Test.YtjljocncnibofaaGreatDoorTCC
import Derived.Test.YtjljocncnibofaaGreatDoorTSO
set_option maxRecDepth 100000
namespace TT
open Go Go.Proofs
abbrev GG : Gt := (Gt.and (u8G 4 5) (Gt.and (lenG 0) (tabG Tryz.prog "unicode.asciiFold" .u16 foldL 1 (by kernel_rfl))))
theorem cat_said_Decl : CatSaid Tryz.prog 72 2 32 52 := by
 intro sb so sc q1 q2 n1 c1 n2 c2 us1 us2 w hs1 hs2 hb hn hl1 hl2 ho1 ho2 hq1 hq2
 obtain ⟨e, i, z, ht, hi, hz, hzs, hsz, hbyt, h0⟩ := appB_spec (P := Tryz.prog) (t := 29) (sz := 2) (byt := 32) (by kernel_rfl)
 obtain rfl : e = 52 := by have h := ht.symm.trans Tryz.underlying29; injection h with h; injection h
 have h := cat_walkDecl Tryz.growDecl rfl rfl hi hz (by omega) hzs sb so sc q1 q2 n1 c1 n2 c2 us1 us2 w hs1 hs2 (by rw [hbyt]; exact hb) hn (by rw [hsz]; exact hl1) (by rw [hsz]; exact hl2) ho1 ho2 hq1 hq2
 rw [hsz] at h
 exact h
theorem soundL : ∀ p ∈ FTA.lb, Sound1 GG Tryz.prog p.1 p.2 := fun p hp => by
 simp only [FTA, List.mem_cons, List.not_mem_nil, or_false] at hp
 rcases hp with rfl | rfl | rfl | rfl | rfl | rfl
 ·exact x_space_sound (by kernel_rfl) space_said
 ·exact x_concat_sound (by decide) (by kernel_rfl) cat_said_Decl
 ·exact x_contains_sound (fun B w h => h.2.1.2) (by kernel_rfl) Tryz.strings_Contains
 ·exact x_fold_sound (ρ := Tryz.lays164_ren) Tryz.lays164 (fun B w h => h.2.2.2) (by kernel_rfl) (by kernel_rfl)
 ·exact x_decode_soundG (fun B w h => h.1.2.2) (by kernel_rfl) Tryz.utf8_DecodeRuneInString
 ·exact x_compare_sound (by kernel_rfl) Tryz.strings_Compare
end TT
