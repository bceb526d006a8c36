import Derived.Test.YtgihjlfmnfbcaaaDoorTKK
import Derived.Test.YtgihjlfmnfbcaaaDoorTD25
import Derived.Test.YtgihjlfmnfbcaaaDoorTE
import Derived.Test.YtgihjlfmnfbcaaaDoorProg
import Derived.KernelRfl
import Derived.Test.YtgihjlfmnfbcaaaDoorTFnClassesLib
import Derived.Test.YtgihjlfmnfbcaaaDoorTHX4
namespace TT
open Go Go.Proofs
set_option maxRecDepth 100000
set_option linter.unusedSimpArgs false
set_option linter.unusedVariables false
theorem Ip : FX Tryd.prog 3 D1 = true := by kernel_rfl
theorem P3 : FX Tryd.prog 4 GJ = true := by kernel_rfl
theorem IA : FX Tryd.prog 5 Ch = true := by kernel_rfl
theorem HR : FX Tryd.prog 6 CS = true := by kernel_rfl
theorem IB : FX Tryd.prog 7 Ci = true := by kernel_rfl
theorem ID : FX Tryd.prog 8 Cj = true := by kernel_rfl
theorem HC : FX Tryd.prog 9 CH = true := by kernel_rfl
theorem L5 : FX Tryd.prog 10 EK = true := by kernel_rfl
theorem L6 : FX Tryd.prog 11 EL = true := by kernel_rfl
theorem Jq : FX Tryd.prog 12 Dh = true := by kernel_rfl
theorem Jr : FX Tryd.prog 13 Di = true := by kernel_rfl
theorem L7 : FX Tryd.prog 14 EM = true := by kernel_rfl
theorem L8 : FX Tryd.prog 15 EN = true := by kernel_rfl
theorem Js : FX Tryd.prog 16 Dj = true := by kernel_rfl
theorem L9 : FX Tryd.prog 17 EO = true := by kernel_rfl
theorem LA : FX Tryd.prog 18 EP = true := by kernel_rfl
theorem JB : FX Tryd.prog 19 DF = true := by kernel_rfl
theorem JC : FX Tryd.prog 20 DG = true := by kernel_rfl
theorem Qk : FX Tryd.prog 21 HK = true := by kernel_rfl
theorem Jt : FX Tryd.prog 22 Dk = true := by kernel_rfl
theorem Ll : FX Tryd.prog 23 F7 = true := by kernel_rfl
theorem LB : FX Tryd.prog 24 EQ = true := by kernel_rfl
theorem Lm : FX Tryd.prog 25 F8 = true := by kernel_rfl
theorem Ju : FX Tryd.prog 26 Dl = true := by kernel_rfl
theorem LC : FX Tryd.prog 27 ET = true := by kernel_rfl
theorem LD : FX Tryd.prog 28 ER = true := by kernel_rfl
theorem Ln : FX Tryd.prog 29 F9 = true := by kernel_rfl
theorem Lo : FX Tryd.prog 30 FA = true := by kernel_rfl
theorem JD : FX Tryd.prog 31 DH = true := by kernel_rfl
theorem NZ : FX Tryd.prog 32 Fd = true := by kernel_rfl
theorem Jv : FX Tryd.prog 33 Dp = true := by kernel_rfl
theorem Jw : FX Tryd.prog 34 Ds = true := by kernel_rfl
theorem LF : FX Tryd.prog 35 EU = true := by kernel_rfl
theorem Lp : FX Tryd.prog 36 FB = true := by kernel_rfl
theorem LG : FX Tryd.prog 37 EV = true := by kernel_rfl
theorem Ew : FX Tryd.prog 38 Aw = true := by kernel_rfl
theorem Jx : FX Tryd.prog 39 Dz = true := by kernel_rfl
theorem Ql : FX Tryd.prog 40 HL = true := by kernel_rfl
theorem LH : FX Tryd.prog 41 EW = true := by kernel_rfl
theorem LI : FX Tryd.prog 42 EX = true := by kernel_rfl
theorem FY : FX Tryd.prog 43 BS = true := by kernel_rfl
theorem VO (f : FuncId) (fn : F) (h : FTT f = some fn) : FX Tryd.prog f fn = true := by
 unfold FTT at h
 split at h <;> cases h
 ·exact Ip
 ·exact P3
 ·exact IA
 ·exact HR
 ·exact IB
 ·exact ID
 ·exact HC
 ·exact L5
 ·exact L6
 ·exact Jq
 ·exact Jr
 ·exact L7
 ·exact L8
 ·exact Js
 ·exact L9
 ·exact LA
 ·exact JB
 ·exact JC
 ·exact Qk
 ·exact Jt
 ·exact Ll
 ·exact LB
 ·exact Lm
 ·exact Ju
 ·exact LC
 ·exact LD
 ·exact Ln
 ·exact Lo
 ·exact JD
 ·exact NZ
 ·exact Jv
 ·exact Jw
 ·exact LF
 ·exact Lp
 ·exact LG
 ·exact Ew
 ·exact Jx
 ·exact Ql
 ·exact LH
 ·exact LI
 ·exact FY
theorem b7 : By GG Tryd.prog (dn ⟨FTT, [], []⟩) := MJ Pe (by kernel_rfl) VO
theorem soundA : By GG Tryd.prog (dn BV) := MJ (ML (fun f args res h => by simp [BV, Hv] at h) Zo) (by kernel_rfl) VO
end TT
