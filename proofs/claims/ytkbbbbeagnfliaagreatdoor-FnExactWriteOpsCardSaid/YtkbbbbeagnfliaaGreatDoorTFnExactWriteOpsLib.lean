import Derived.Test.YtkbbbbeagnfliaaGreatDoorTKK
import Derived.Test.YtkbbbbeagnfliaaGreatDoorTHX4
import Derived.Test.YtkbbbbeagnfliaaGreatDoorTD25
import Derived.Test.YtkbbbbeagnfliaaGreatDoorTE
import Derived.KernelRfl
import Derived.Test.YtkbbbbeagnfliaaGreatDoorTSH
import Derived.Test.YtkbbbbeagnfliaaGreatDoorTCC
import Derived.Test.YtkbbbbeagnfliaaGreatDoorTSO
import Derived.Test.YtkbbbbeagnfliaaGreatDoorTFI
set_option maxRecDepth 100000
namespace TT
open Go Go.Proofs
abbrev GG : Gt:=(Gt.and (u8G 2 3) (Gt.and (ADO 0) (Gt.and (AD8 Tryz.prog "unicode.asciiFold" .u16 foldL 4 (by kernel_rfl)) (AD8 Tryz.prog "internal/strconv.uint64pow10" .u64 Lib.pow10Tab 1 (by kernel_rfl)))))
theorem qO : kX Tryz.prog 160 2 32 61:=by
 intro sb so sc q1 q2 n1 c1 n2 c2 us1 us2 w hs1 hs2 hb hn hl1 hl2 ho1 ho2 hq1 hq2
 obtain⟨e,i,z,ht,hi,hz,hzs,hsz,hbyt,h0⟩:=fN (P:=Tryz.prog) (t:=37) (sz:=2) (byt:=32) (by kernel_rfl)
 obtain rfl:e=61:=by have h:=ht.symm.trans Tryz.underlying37;injection h with h;injection h
 have h:=tX Tryz.growDecl rfl rfl hi hz (by omega) hzs sb so sc q1 q2 n1 c1 n2 c2 us1 us2 w hs1 hs2 (by rw[hbyt];exact hb) hn (by rw[hsz];exact hl1) (by rw[hsz];exact hl2) ho1 ho2 hq1 hq2
 rw[hsz]at h
 exact h
theorem ACC : ∀ p∈AI.lb,PP GG Tryz.prog p.1 p.2:=fun p hp=>by
 simp only[AI,List.mem_cons,List.not_mem_nil,or_false]at hp
 rcases hp with rfl|rfl|rfl|rfl|rfl|rfl|rfl|rfl|rfl
 ·exact pJ (by kernel_rfl) lm
 ·exact tT (by kernel_rfl) (A5d qO lm)
 ·exact fW (fun B w h=>h.2.1.2) (by kernel_rfl) Tryz.strings_Contains
 ·exact tP (fun B w h=>h.2.2.2.2) (by kernel_rfl) Tryz.strconv_Itoa
 ·exact ib (fun B w h=>h.2.1.2) (by kernel_rfl) Tryz.strings_ReplaceAll
 ·exact wo (fun B w h=>h.2.1.2) (by kernel_rfl) Tryz.strings_Cut
 ·exact iY (fun B w h=>h.1.2.2) (by kernel_rfl) Tryz.utf8_DecodeRuneInString
 ·exact iZ (by kernel_rfl) Tryz.strings_Compare
 ·exact tR (ρ:=Tryz.lays164_ren) Tryz.lays164 (fun B w h=>h.2.2.1.2) (by kernel_rfl) (by kernel_rfl)
end TT
