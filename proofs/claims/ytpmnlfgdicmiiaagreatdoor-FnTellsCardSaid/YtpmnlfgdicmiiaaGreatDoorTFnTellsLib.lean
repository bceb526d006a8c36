import Derived.Test.YtpmnlfgdicmiiaaGreatDoorTKK
import Derived.Test.YtpmnlfgdicmiiaaGreatDoorTHX4
import Derived.Test.YtpmnlfgdicmiiaaGreatDoorTD25
import Derived.Test.YtpmnlfgdicmiiaaGreatDoorTE
import Derived.KernelRfl
import Derived.Test.YtpmnlfgdicmiiaaGreatDoorTSH
import Derived.Test.YtpmnlfgdicmiiaaGreatDoorTCC
import Derived.Test.YtpmnlfgdicmiiaaGreatDoorTSO
import Derived.Test.YtpmnlfgdicmiiaaGreatDoorTFI
set_option maxRecDepth 100000
namespace TT
open Go Go.Proofs
abbrev GG : Gt:=(Gt.and (u8G 2 3) (Gt.and (ACY 0) (Gt.and (ACA Tryz.prog "unicode.asciiFold" .u16 foldL 4 (by kernel_rfl)) (ACA Tryz.prog "internal/strconv.uint64pow10" .u64 Lib.pow10Tab 1 (by kernel_rfl)))))
theorem pD : kl Tryz.prog 134 1 8 3:=by
 intro sb so sc q1 q2 q3 n1 c1 n2 c2 n3 c3 us1 us2 us3 w hs1 hs2 hs3 hb hn hl1 hl2 hl3 ho1 ho2 ho3 hq1 hq2 hq3
 obtain⟨e,i,z,ht,hi,hz,hzs,hsz,hbyt,h0⟩:=Vq (P:=Tryz.prog) (t:=71) (sz:=1) (byt:=8) (by kernel_rfl)
 obtain rfl:e=3:=by have h:=ht.symm.trans Tryz.underlying71;injection h with h;injection h
 have h:=sC Tryz.growInt rfl rfl hi hz (by omega) hzs sb so sc q1 q2 q3 n1 c1 n2 c2 n3 c3 us1 us2 us3 w hs1 hs2 hs3 (by rw[hbyt];exact hb) hn (by rw[hsz];exact hl1) (by rw[hsz];exact hl2) (by rw[hsz];exact hl3) ho1 ho2 ho3 hq1 hq2 hq3
 rw[hsz]at h
 exact h
theorem tn : Wb Tryz.prog 134 1 8 3:=by
 intro sb so sc q1 q2 n1 c1 n2 c2 us1 us2 w hs1 hs2 hb hn hl1 hl2 ho1 ho2 hq1 hq2
 obtain⟨e,i,z,ht,hi,hz,hzs,hsz,hbyt,h0⟩:=Vq (P:=Tryz.prog) (t:=71) (sz:=1) (byt:=8) (by kernel_rfl)
 obtain rfl:e=3:=by have h:=ht.symm.trans Tryz.underlying71;injection h with h;injection h
 have h:=vc Tryz.growInt rfl rfl hi hz (by omega) hzs sb so sc q1 q2 n1 c1 n2 c2 us1 us2 w hs1 hs2 (by rw[hbyt];exact hb) hn (by rw[hsz];exact hl1) (by rw[hsz];exact hl2) ho1 ho2 hq1 hq2
 rw[hsz]at h
 exact h
theorem pE : Wb Tryz.prog 222 2 32 106:=by
 intro sb so sc q1 q2 n1 c1 n2 c2 us1 us2 w hs1 hs2 hb hn hl1 hl2 ho1 ho2 hq1 hq2
 obtain⟨e,i,z,ht,hi,hz,hzs,hsz,hbyt,h0⟩:=Vq (P:=Tryz.prog) (t:=41) (sz:=2) (byt:=32) (by kernel_rfl)
 obtain rfl:e=106:=by have h:=ht.symm.trans Tryz.underlying41;injection h with h;injection h
 have h:=sE Tryz.growDecl rfl rfl hi hz (by omega) hzs sb so sc q1 q2 n1 c1 n2 c2 us1 us2 w hs1 hs2 (by rw[hbyt];exact hb) hn (by rw[hsz];exact hl1) (by rw[hsz];exact hl2) ho1 ho2 hq1 hq2
 rw[hsz]at h
 exact h
theorem ABH : ∀ p∈AL.lb,Mm GG Tryz.prog p.1 p.2:=fun p hp=>by
 simp only[AL,List.mem_cons,List.not_mem_nil,or_false]at hp
 rcases hp with rfl|rfl|rfl|rfl|rfl|rfl|rfl|rfl|rfl
 ·exact sB (by kernel_rfl) (A51 pE km)
 ·exact iN (by decide) (by kernel_rfl) tn pD
 ·exact fA (fun B w h=>h.2.1.2) (by kernel_rfl) Tryz.strings_Contains
 ·exact s7 (fun B w h=>h.2.2.2.2) (by kernel_rfl) Tryz.strconv_Itoa
 ·exact o9 (by kernel_rfl) km
 ·exact vZ (fun B w h=>h.2.1.2) (by kernel_rfl) Tryz.strings_Cut
 ·exact iK (fun B w h=>h.1.2.2) (by kernel_rfl) Tryz.utf8_DecodeRuneInString
 ·exact sA (ρ:=Tryz.lays164_ren) Tryz.lays164 (fun B w h=>h.2.2.1.2) (by kernel_rfl) (by kernel_rfl)
 ·exact iL (by kernel_rfl) Tryz.strings_Compare
end TT
