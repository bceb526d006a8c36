import Derived.Test.YtaeegkjcjlnanaaGreatDoorTKK
import Derived.Test.YtaeegkjcjlnanaaGreatDoorTD25
import Derived.Test.YtaeegkjcjlnanaaGreatDoorTE
import Derived.Test.YtaeegkjcjlnanaaGreatDoorProg
import Derived.KernelRfl
import Derived.Test.YtaeegkjcjlnanaaGreatDoorTFnSwapsLib
import Derived.Test.YtaeegkjcjlnanaaGreatDoorTHX4
namespace TT
open Go Go.Proofs
set_option maxRecDepth 100000
set_option linter.unusedSimpArgs false
set_option linter.unusedVariables false
theorem YY : CH Tryz.prog 3 Ii = true := by kernel_rfl
theorem kj : CH Tryz.prog 6 QB = true := by kernel_rfl
theorem XC : CH Tryz.prog 7 HU = true := by kernel_rfl
theorem iS : CH Tryz.prog 8 OE = true := by kernel_rfl
theorem iT : CH Tryz.prog 9 OF = true := by kernel_rfl
theorem XD : CH Tryz.prog 10 HV = true := by kernel_rfl
theorem iU : CH Tryz.prog 11 OG = true := by kernel_rfl
theorem bB : CH Tryz.prog 12 Kl = true := by kernel_rfl
theorem XE : CH Tryz.prog 13 HW = true := by kernel_rfl
theorem bC : CH Tryz.prog 21 Kq = true := by kernel_rfl
theorem bD : CH Tryz.prog 28 Kt = true := by kernel_rfl
theorem XF : CH Tryz.prog 29 HX = true := by kernel_rfl
theorem dK : CH Tryz.prog 34 Mq = true := by kernel_rfl
theorem bE : CH Tryz.prog 35 Km = true := by kernel_rfl
theorem bF : CH Tryz.prog 36 Kn = true := by kernel_rfl
theorem YZ : CH Tryz.prog 37 Ij = true := by kernel_rfl
theorem dL : CH Tryz.prog 38 Mr = true := by kernel_rfl
theorem Ya : CH Tryz.prog 39 Im = true := by kernel_rfl
theorem Vw : CH Tryz.prog 40 Gj = true := by kernel_rfl
theorem bG : CH Tryz.prog 41 Ko = true := by kernel_rfl
theorem dM : CH Tryz.prog 42 Ms = true := by kernel_rfl
theorem bH : CH Tryz.prog 43 Kp = true := by kernel_rfl
theorem Yb : CH Tryz.prog 44 Io = true := by kernel_rfl
theorem iV : CH Tryz.prog 45 OH = true := by kernel_rfl
theorem bI : CH Tryz.prog 46 Kr = true := by kernel_rfl
theorem dN : CH Tryz.prog 47 Mt = true := by kernel_rfl
theorem bJ : CH Tryz.prog 48 Ks = true := by kernel_rfl
theorem Vx : CH Tryz.prog 49 Gk = true := by kernel_rfl
theorem PD : CH Tryz.prog 50 DH = true := by kernel_rfl
theorem dO : CH Tryz.prog 51 Mu = true := by kernel_rfl
theorem bK : CH Tryz.prog 58 Ku = true := by kernel_rfl
theorem Vy : CH Tryz.prog 60 Gm = true := by kernel_rfl
theorem nF : CH Tryz.prog 61 SV = true := by kernel_rfl
theorem bL : CH Tryz.prog 63 B5 = true := by kernel_rfl
theorem bM : CH Tryz.prog 64 Kw = true := by kernel_rfl
theorem bN : CH Tryz.prog 65 Kv = true := by kernel_rfl
theorem Yc : CH Tryz.prog 66 It = true := by kernel_rfl
theorem iW : CH Tryz.prog 67 OI = true := by kernel_rfl
theorem bO : CH Tryz.prog 68 Kx = true := by kernel_rfl
theorem iX : CH Tryz.prog 69 OJ = true := by kernel_rfl
theorem Ss : CH Tryz.prog 70 D2 = true := by kernel_rfl
theorem Yd : CH Tryz.prog 71 Iw = true := by kernel_rfl
theorem bP : CH Tryz.prog 72 Ky = true := by kernel_rfl
theorem bQ : CH Tryz.prog 73 Kz = true := by kernel_rfl
theorem bR : CH Tryz.prog 74 L3 = true := by kernel_rfl
theorem XG : CH Tryz.prog 75 Hd = true := by kernel_rfl
theorem Ye : CH Tryz.prog 76 JK = true := by kernel_rfl
theorem Yf : CH Tryz.prog 77 JM = true := by kernel_rfl
theorem Yg : CH Tryz.prog 79 Iz = true := by kernel_rfl
theorem bS : CH Tryz.prog 80 L4 = true := by kernel_rfl
theorem Yh : CH Tryz.prog 81 J2 = true := by kernel_rfl
theorem bT : CH Tryz.prog 82 L5 = true := by kernel_rfl
theorem SB : CH Tryz.prog 83 Ew = true := by kernel_rfl
theorem SC : CH Tryz.prog 84 Ey = true := by kernel_rfl
theorem SD : CH Tryz.prog 86 CZ = true := by kernel_rfl
theorem SE : CH Tryz.prog 87 Ca = true := by kernel_rfl
theorem Ub : CH Tryz.prog 88 G6 = true := by kernel_rfl
theorem dP : CH Tryz.prog 92 Mv = true := by kernel_rfl
theorem dQ : CH Tryz.prog 93 Mw = true := by kernel_rfl
theorem dR : CH Tryz.prog 94 Mx = true := by kernel_rfl
theorem bU : CH Tryz.prog 95 L6 = true := by kernel_rfl
theorem dS : CH Tryz.prog 96 My = true := by kernel_rfl
theorem bV : CH Tryz.prog 97 L7 = true := by kernel_rfl
theorem dT : CH Tryz.prog 98 Mz = true := by kernel_rfl
theorem Yi : CH Tryz.prog 99 JA = true := by kernel_rfl
theorem dU : CH Tryz.prog 100 N1 = true := by kernel_rfl
theorem bW : CH Tryz.prog 101 L8 = true := by kernel_rfl
theorem dV : CH Tryz.prog 102 N0 = true := by kernel_rfl
theorem bX : CH Tryz.prog 103 L9 = true := by kernel_rfl
theorem dW : CH Tryz.prog 104 N2 = true := by kernel_rfl
theorem dX : CH Tryz.prog 105 N3 = true := by kernel_rfl
theorem Yj : CH Tryz.prog 106 JD = true := by kernel_rfl
theorem Yk : CH Tryz.prog 107 JG = true := by kernel_rfl
theorem Yl : CH Tryz.prog 108 JJ = true := by kernel_rfl
theorem Uc : CH Tryz.prog 109 G7 = true := by kernel_rfl
theorem NJ : CH Tryz.prog 110 CU = true := by kernel_rfl
theorem XH : CH Tryz.prog 111 Hi = true := by kernel_rfl
theorem dY : CH Tryz.prog 112 N9 = true := by kernel_rfl
theorem dZ : CH Tryz.prog 120 N4 = true := by kernel_rfl
theorem bY : CH Tryz.prog 123 LA = true := by kernel_rfl
theorem bZ : CH Tryz.prog 124 LB = true := by kernel_rfl
theorem ba : CH Tryz.prog 125 LC = true := by kernel_rfl
theorem bc : CH Tryz.prog 126 LD = true := by kernel_rfl
theorem bd : CH Tryz.prog 127 LF = true := by kernel_rfl
theorem SG : CH Tryz.prog 128 Ez = true := by kernel_rfl
theorem be : CH Tryz.prog 129 LG = true := by kernel_rfl
theorem Ym : CH Tryz.prog 130 JL = true := by kernel_rfl
theorem bf : CH Tryz.prog 131 LH = true := by kernel_rfl
theorem bg : CH Tryz.prog 132 LI = true := by kernel_rfl
theorem bh : CH Tryz.prog 133 LJ = true := by kernel_rfl
theorem SH : CH Tryz.prog 134 F8 = true := by kernel_rfl
theorem PE : CH Tryz.prog 135 DI = true := by kernel_rfl
theorem da : CH Tryz.prog 140 N5 = true := by kernel_rfl
theorem Yn : CH Tryz.prog 141 JN = true := by kernel_rfl
theorem bi : CH Tryz.prog 142 LK = true := by kernel_rfl
theorem Yo : CH Tryz.prog 143 JQ = true := by kernel_rfl
theorem XI : CH Tryz.prog 144 Hh = true := by kernel_rfl
theorem bj : CH Tryz.prog 145 LL = true := by kernel_rfl
theorem db : CH Tryz.prog 146 N6 = true := by kernel_rfl
theorem dc : CH Tryz.prog 147 N7 = true := by kernel_rfl
theorem Yp : CH Tryz.prog 148 JR = true := by kernel_rfl
theorem Yq : CH Tryz.prog 149 JU = true := by kernel_rfl
theorem SI : CH Tryz.prog 151 F9 = true := by kernel_rfl
theorem Yr : CH Tryz.prog 153 JV = true := by kernel_rfl
theorem IR : CH Tryz.prog 154 BR = true := by kernel_rfl
theorem de : CH Tryz.prog 156 N8 = true := by kernel_rfl
theorem dg : CH Tryz.prog 160 NA = true := by kernel_rfl
theorem bl : CH Tryz.prog 161 LM = true := by kernel_rfl
theorem Ys : CH Tryz.prog 162 Ja = true := by kernel_rfl
theorem bm : CH Tryz.prog 163 LN = true := by kernel_rfl
theorem Yt : CH Tryz.prog 164 Jd = true := by kernel_rfl
theorem bn : CH Tryz.prog 165 LO = true := by kernel_rfl
theorem bo : CH Tryz.prog 166 LP = true := by kernel_rfl
theorem IS : CH Tryz.prog 168 BS = true := by kernel_rfl
theorem MO : CH Tryz.prog 171 CI = true := by kernel_rfl
theorem Yu : CH Tryz.prog 172 Je = true := by kernel_rfl
theorem XJ : CH Tryz.prog 174 Hj = true := by kernel_rfl
theorem bp : CH Tryz.prog 175 LQ = true := by kernel_rfl
theorem O9 : CH Tryz.prog 179 DA = true := by kernel_rfl
theorem uC (f : FuncId) (fn : F) (h : FTT f = some fn) : CH Tryz.prog f fn = true := by
 unfold FTT at h
 split at h <;> cases h
 ·exact YY
 ·exact kj
 ·exact XC
 ·exact iS
 ·exact iT
 ·exact XD
 ·exact iU
 ·exact bB
 ·exact XE
 ·exact bC
 ·exact bD
 ·exact XF
 ·exact dK
 ·exact bE
 ·exact bF
 ·exact YZ
 ·exact dL
 ·exact Ya
 ·exact Vw
 ·exact bG
 ·exact dM
 ·exact bH
 ·exact Yb
 ·exact iV
 ·exact bI
 ·exact dN
 ·exact bJ
 ·exact Vx
 ·exact PD
 ·exact dO
 ·exact bK
 ·exact Vy
 ·exact nF
 ·exact bL
 ·exact bM
 ·exact bN
 ·exact Yc
 ·exact iW
 ·exact bO
 ·exact iX
 ·exact Ss
 ·exact Yd
 ·exact bP
 ·exact bQ
 ·exact bR
 ·exact XG
 ·exact Ye
 ·exact Yf
 ·exact Yg
 ·exact bS
 ·exact Yh
 ·exact bT
 ·exact SB
 ·exact SC
 ·exact SD
 ·exact SE
 ·exact Ub
 ·exact dP
 ·exact dQ
 ·exact dR
 ·exact bU
 ·exact dS
 ·exact bV
 ·exact dT
 ·exact Yi
 ·exact dU
 ·exact bW
 ·exact dV
 ·exact bX
 ·exact dW
 ·exact dX
 ·exact Yj
 ·exact Yk
 ·exact Yl
 ·exact Uc
 ·exact NJ
 ·exact XH
 ·exact dY
 ·exact dZ
 ·exact bY
 ·exact bZ
 ·exact ba
 ·exact bc
 ·exact bd
 ·exact SG
 ·exact be
 ·exact Ym
 ·exact bf
 ·exact bg
 ·exact bh
 ·exact SH
 ·exact PE
 ·exact da
 ·exact Yn
 ·exact bi
 ·exact Yo
 ·exact XI
 ·exact bj
 ·exact db
 ·exact dc
 ·exact Yp
 ·exact Yq
 ·exact SI
 ·exact Yr
 ·exact IR
 ·exact de
 ·exact dg
 ·exact bl
 ·exact Ys
 ·exact bm
 ·exact Yt
 ·exact bn
 ·exact bo
 ·exact IS
 ·exact MO
 ·exact Yu
 ·exact XJ
 ·exact bp
 ·exact O9
theorem A08 : DZ GG Tryz.prog (dn ⟨FTT, [], []⟩) := eJ lS (by kernel_rfl) uC
theorem SJ (q : Option Addr) (cap : Nat) : dn ⟨FTT, [], []⟩ Fh [.t (.v (.slice q 0 cap))] = some ⟨[.t (.sl true [])], []⟩ := by
 show dn ⟨FTT, [], []⟩ _ _ = _
 rw [A9 ⟨FTT, [], []⟩ (fn := D2) rfl rfl (Nat.le_of_ble_eq_true rfl)]
 cases q <;> simp only [SS ⟨FTT, [], []⟩, S3, D2, Option.isNone, show room 0 8 = some () from by unfold room; rw [if_pos ⟨by simp, by decide⟩], ST, Nat.reduceAdd, Nat.reduceSub, Nat.reduceMul, Nat.reduceLeDiff, Nat.reduceLT, Nat.reduceEqDiff, Nat.reduceBEq, ↓reduceIte, reduceCtorEq] <;> rfl
theorem Qk (q : Option Addr) (cap : Nat) : dn ⟨FTT, [], []⟩ Ev [.t (.v (.slice q 0 cap))] = some ⟨[.t (.sl true [])], []⟩ := by
 show dn ⟨FTT, [], []⟩ _ _ = _
 rw [A9 ⟨FTT, [], []⟩ (fn := CZ) rfl rfl (Nat.le_of_ble_eq_true rfl)]
 cases q <;> simp only [SS ⟨FTT, [], []⟩, S3, CZ, Option.isNone, show room 0 32 = some () from by unfold room; rw [if_pos ⟨by simp, by decide⟩], ST, Nat.reduceAdd, Nat.reduceSub, Nat.reduceMul, Nat.reduceLeDiff, Nat.reduceLT, Nat.reduceEqDiff, Nat.reduceBEq, ↓reduceIte, reduceCtorEq] <;> rfl
theorem Ql (q : Option Addr) (cap : Nat) : dn ⟨FTT, [], []⟩ Eu [.t (.v (.slice q 0 cap))] = some ⟨[.t (.sl true [])], []⟩ := by
 show dn ⟨FTT, [], []⟩ _ _ = _
 rw [A9 ⟨FTT, [], []⟩ (fn := Ca) rfl rfl (Nat.le_of_ble_eq_true rfl)]
 cases q <;> simp only [SS ⟨FTT, [], []⟩, S3, Ca, Option.isNone, show room 0 64 = some () from by unfold room; rw [if_pos ⟨by simp, by decide⟩], ST, Nat.reduceAdd, Nat.reduceSub, Nat.reduceMul, Nat.reduceLeDiff, Nat.reduceLT, Nat.reduceEqDiff, Nat.reduceBEq, ↓reduceIte, reduceCtorEq] <;> rfl
theorem soundA : DZ GG Tryz.prog (dn AF) := eJ (eK (fS A08 (fun f hf q cap => by
 simp only [AF, List.contains_cons, List.contains_nil, Bool.or_false, Bool.or_eq_true, beq_iff_eq] at hf
 rcases hf with rfl | rfl | rfl
 ·exact SJ q cap
 ·exact Qk q cap
 ·exact Ql q cap
)) A07) (by kernel_rfl) uC
end TT
