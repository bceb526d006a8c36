import Derived.Test.YtpmnlfgdicmiiaaGreatDoorTKK
import Derived.Test.YtpmnlfgdicmiiaaGreatDoorTHX4
import Derived.Test.YtpmnlfgdicmiiaaGreatDoorTD25
import Derived.Test.YtpmnlfgdicmiiaaGreatDoorTE
import Derived.KernelRfl
import Derived.Test.YtpmnlfgdicmiiaaGreatDoorTSH
import Derived.Test.YtpmnlfgdicmiiaaGreatDoorTCC
import Derived.Test.YtpmnlfgdicmiiaaGreatDoorTSO
import Derived.Test.YtpmnlfgdicmiiaaGreatDoorTFI
set_option maxRecDepth 100000
namespace TT
open Go Go.Proofs
abbrev GG : Gt:=(Gt.and (u8G 2 3) (Gt.and (A6s 0) (A6t Tryz.prog "unicode.asciiFold" .u16 foldL 4 (by kernel_rfl))))
theorem iA : dE Tryz.prog 134 1 8 3:=by
 intro sb so sc q1 q2 q3 n1 c1 n2 c2 n3 c3 us1 us2 us3 w hs1 hs2 hs3 hb hn hl1 hl2 hl3 ho1 ho2 ho3 hq1 hq2 hq3
 obtain⟨e,i,z,ht,hi,hz,hzs,hsz,hbyt,h0⟩:=SU (P:=Tryz.prog) (t:=71) (sz:=1) (byt:=8) (by kernel_rfl)
 obtain rfl:e=3:=by have h:=ht.symm.trans Tryz.underlying71;injection h with h;injection h
 have h:=kc Tryz.growInt rfl rfl hi hz (by omega) hzs sb so sc q1 q2 q3 n1 c1 n2 c2 n3 c3 us1 us2 us3 w hs1 hs2 hs3 (by rw[hbyt];exact hb) hn (by rw[hsz];exact hl1) (by rw[hsz];exact hl2) (by rw[hsz];exact hl3) ho1 ho2 ho3 hq1 hq2 hq3
 rw[hsz]at h
 exact h
theorem mN : TE Tryz.prog 134 1 8 3:=by
 intro sb so sc q1 q2 n1 c1 n2 c2 us1 us2 w hs1 hs2 hb hn hl1 hl2 ho1 ho2 hq1 hq2
 obtain⟨e,i,z,ht,hi,hz,hzs,hsz,hbyt,h0⟩:=SU (P:=Tryz.prog) (t:=71) (sz:=1) (byt:=8) (by kernel_rfl)
 obtain rfl:e=3:=by have h:=ht.symm.trans Tryz.underlying71;injection h with h;injection h
 have h:=oG Tryz.growInt rfl rfl hi hz (by omega) hzs sb so sc q1 q2 n1 c1 n2 c2 us1 us2 w hs1 hs2 (by rw[hbyt];exact hb) hn (by rw[hsz];exact hl1) (by rw[hsz];exact hl2) ho1 ho2 hq1 hq2
 rw[hsz]at h
 exact h
theorem iB : TE Tryz.prog 222 2 32 106:=by
 intro sb so sc q1 q2 n1 c1 n2 c2 us1 us2 w hs1 hs2 hb hn hl1 hl2 ho1 ho2 hq1 hq2
 obtain⟨e,i,z,ht,hi,hz,hzs,hsz,hbyt,h0⟩:=SU (P:=Tryz.prog) (t:=41) (sz:=2) (byt:=32) (by kernel_rfl)
 obtain rfl:e=106:=by have h:=ht.symm.trans Tryz.underlying41;injection h with h;injection h
 have h:=kf Tryz.growDecl rfl rfl hi hz (by omega) hzs sb so sc q1 q2 n1 c1 n2 c2 us1 us2 w hs1 hs2 (by rw[hbyt];exact hb) hn (by rw[hsz];exact hl1) (by rw[hsz];exact hl2) ho1 ho2 hq1 hq2
 rw[hsz]at h
 exact h
theorem A5c : ∀ p∈AF.lb,LK GG Tryz.prog p.1 p.2:=fun p hp=>by
 simp only[AF,List.mem_cons,List.not_mem_nil,or_false]at hp
 rcases hp with rfl|rfl|rfl|rfl|rfl|rfl|rfl|rfl
 ·exact kb (by kernel_rfl) (zP iB dF)
 ·exact ap (by decide) (by kernel_rfl) mN iA
 ·exact ZC (fun B w h=>h.2.1.2) (by kernel_rfl) Tryz.strings_Contains
 ·exact gG (by kernel_rfl) dF
 ·exact al (fun B w h=>h.1.2.2) (by kernel_rfl) Tryz.utf8_DecodeRuneInString
 ·exact oE (fun B w h=>h.2.1.2) (by kernel_rfl) Tryz.strings_Cut
 ·exact ka (ρ:=Tryz.lays164_ren) Tryz.lays164 (fun B w h=>h.2.2.2) (by kernel_rfl) (by kernel_rfl)
 ·exact am (by kernel_rfl) Tryz.strings_Compare
end TT
