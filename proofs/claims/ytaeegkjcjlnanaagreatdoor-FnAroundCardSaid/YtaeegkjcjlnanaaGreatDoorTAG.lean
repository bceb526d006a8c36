import Derived.Test.YtaeegkjcjlnanaaGreatDoorTKK
import Derived.Test.YtaeegkjcjlnanaaGreatDoorTD25
import Derived.Test.YtaeegkjcjlnanaaGreatDoorTE
import Derived.Test.YtaeegkjcjlnanaaGreatDoorProg
import Derived.KernelRfl
import Derived.Test.YtaeegkjcjlnanaaGreatDoorTFnAroundLib
import Derived.Test.YtaeegkjcjlnanaaGreatDoorTHX4
namespace TT
open Go Go.Proofs
set_option maxRecDepth 100000
set_option linter.unusedSimpArgs false
set_option linter.unusedVariables false
theorem WF : CL Tryz.prog 5 HN = true := by kernel_rfl
theorem jM : CL Tryz.prog 6 PX = true := by kernel_rfl
theorem WG : CL Tryz.prog 10 HS = true := by kernel_rfl
theorem fj : CL Tryz.prog 11 Ng = true := by kernel_rfl
theorem Zd : CL Tryz.prog 12 KX = true := by kernel_rfl
theorem WH : CL Tryz.prog 13 HQ = true := by kernel_rfl
theorem WI : CL Tryz.prog 25 HO = true := by kernel_rfl
theorem Ze : CL Tryz.prog 26 KT = true := by kernel_rfl
theorem fk : CL Tryz.prog 27 Nf = true := by kernel_rfl
theorem Zf : CL Tryz.prog 28 KU = true := by kernel_rfl
theorem WJ : CL Tryz.prog 29 HP = true := by kernel_rfl
theorem fl : CL Tryz.prog 30 Nh = true := by kernel_rfl
theorem fm : CL Tryz.prog 31 Ni = true := by kernel_rfl
theorem WK : CL Tryz.prog 32 HR = true := by kernel_rfl
theorem fo : CL Tryz.prog 33 Nj = true := by kernel_rfl
theorem bT : CL Tryz.prog 34 MT = true := by kernel_rfl
theorem XZ : CL Tryz.prog 37 Ij = true := by kernel_rfl
theorem bU : CL Tryz.prog 38 MW = true := by kernel_rfl
theorem V8 : CL Tryz.prog 40 GX = true := by kernel_rfl
theorem Zg : CL Tryz.prog 41 Kb = true := by kernel_rfl
theorem Zh : CL Tryz.prog 43 KW = true := by kernel_rfl
theorem Zi : CL Tryz.prog 46 Kd = true := by kernel_rfl
theorem Zj : CL Tryz.prog 48 KY = true := by kernel_rfl
theorem V9 : CL Tryz.prog 49 GV = true := by kernel_rfl
theorem OV : CL Tryz.prog 50 DE = true := by kernel_rfl
theorem bV : CL Tryz.prog 51 MV = true := by kernel_rfl
theorem lO : CL Tryz.prog 52 Rl = true := by kernel_rfl
theorem Zk : CL Tryz.prog 58 KV = true := by kernel_rfl
theorem WL : CL Tryz.prog 59 HU = true := by kernel_rfl
theorem VA : CL Tryz.prog 60 GU = true := by kernel_rfl
theorem lP : CL Tryz.prog 61 Rk = true := by kernel_rfl
theorem bW : CL Tryz.prog 62 MU = true := by kernel_rfl
theorem Zl : CL Tryz.prog 63 BB = true := by kernel_rfl
theorem Zm : CL Tryz.prog 64 KZ = true := by kernel_rfl
theorem Zn : CL Tryz.prog 65 Ka = true := by kernel_rfl
theorem fp : CL Tryz.prog 67 Nl = true := by kernel_rfl
theorem Zo : CL Tryz.prog 68 Kf = true := by kernel_rfl
theorem fq : CL Tryz.prog 69 Nk = true := by kernel_rfl
theorem S9 : CL Tryz.prog 70 Cz = true := by kernel_rfl
theorem Xa : CL Tryz.prog 71 Ix = true := by kernel_rfl
theorem Zp : CL Tryz.prog 72 Ki = true := by kernel_rfl
theorem Zq : CL Tryz.prog 73 Kj = true := by kernel_rfl
theorem Zr : CL Tryz.prog 74 Kk = true := by kernel_rfl
theorem Xb : CL Tryz.prog 79 J1 = true := by kernel_rfl
theorem Zs : CL Tryz.prog 80 Kn = true := by kernel_rfl
theorem Zt : CL Tryz.prog 82 Ke = true := by kernel_rfl
theorem RQ : CL Tryz.prog 83 Ep = true := by kernel_rfl
theorem RR : CL Tryz.prog 84 Er = true := by kernel_rfl
theorem RT : CL Tryz.prog 86 CY = true := by kernel_rfl
theorem RU : CL Tryz.prog 87 CZ = true := by kernel_rfl
theorem Tt : CL Tryz.prog 88 Fq = true := by kernel_rfl
theorem OW : CL Tryz.prog 89 DF = true := by kernel_rfl
theorem Xc : CL Tryz.prog 90 Iy = true := by kernel_rfl
theorem WM : CL Tryz.prog 91 Hb = true := by kernel_rfl
theorem bX : CL Tryz.prog 92 MX = true := by kernel_rfl
theorem bY : CL Tryz.prog 93 MY = true := by kernel_rfl
theorem bZ : CL Tryz.prog 94 MZ = true := by kernel_rfl
theorem Zu : CL Tryz.prog 95 Kc = true := by kernel_rfl
theorem ba : CL Tryz.prog 96 Ma = true := by kernel_rfl
theorem Zv : CL Tryz.prog 97 Kg = true := by kernel_rfl
theorem bc : CL Tryz.prog 98 Mb = true := by kernel_rfl
theorem Xd : CL Tryz.prog 99 Iu = true := by kernel_rfl
theorem bd : CL Tryz.prog 100 Me = true := by kernel_rfl
theorem Zw : CL Tryz.prog 101 Kh = true := by kernel_rfl
theorem be : CL Tryz.prog 102 Mc = true := by kernel_rfl
theorem Zx : CL Tryz.prog 103 Ko = true := by kernel_rfl
theorem bf : CL Tryz.prog 104 Mf = true := by kernel_rfl
theorem bg : CL Tryz.prog 105 Mg = true := by kernel_rfl
theorem Xe : CL Tryz.prog 106 J6 = true := by kernel_rfl
theorem Xf : CL Tryz.prog 107 J9 = true := by kernel_rfl
theorem Xg : CL Tryz.prog 108 JC = true := by kernel_rfl
theorem Tu : CL Tryz.prog 109 Fv = true := by kernel_rfl
theorem Mt : CL Tryz.prog 110 CS = true := by kernel_rfl
theorem WN : CL Tryz.prog 111 He = true := by kernel_rfl
theorem bh : CL Tryz.prog 120 Mh = true := by kernel_rfl
theorem SA : CL Tryz.prog 122 FZ = true := by kernel_rfl
theorem Zy : CL Tryz.prog 123 Kl = true := by kernel_rfl
theorem Zz : CL Tryz.prog 124 Km = true := by kernel_rfl
theorem a7 : CL Tryz.prog 125 Kp = true := by kernel_rfl
theorem a8 : CL Tryz.prog 126 Kq = true := by kernel_rfl
theorem aA : CL Tryz.prog 127 Kr = true := by kernel_rfl
theorem RW : CL Tryz.prog 128 Es = true := by kernel_rfl
theorem aB : CL Tryz.prog 129 Ks = true := by kernel_rfl
theorem Xh : CL Tryz.prog 130 JD = true := by kernel_rfl
theorem aC : CL Tryz.prog 131 Kt = true := by kernel_rfl
theorem aD : CL Tryz.prog 132 Ku = true := by kernel_rfl
theorem aE : CL Tryz.prog 133 Kv = true := by kernel_rfl
theorem RX : CL Tryz.prog 134 Et = true := by kernel_rfl
theorem OX : CL Tryz.prog 135 DG = true := by kernel_rfl
theorem bi : CL Tryz.prog 140 Mi = true := by kernel_rfl
theorem Xi : CL Tryz.prog 141 JE = true := by kernel_rfl
theorem aF : CL Tryz.prog 142 Kw = true := by kernel_rfl
theorem Xj : CL Tryz.prog 143 JH = true := by kernel_rfl
theorem WO : CL Tryz.prog 144 Hd = true := by kernel_rfl
theorem aG : CL Tryz.prog 145 Kx = true := by kernel_rfl
theorem bj : CL Tryz.prog 146 Mj = true := by kernel_rfl
theorem bl : CL Tryz.prog 147 Mk = true := by kernel_rfl
theorem Xk : CL Tryz.prog 148 JI = true := by kernel_rfl
theorem Xl : CL Tryz.prog 149 JL = true := by kernel_rfl
theorem RY : CL Tryz.prog 151 Eu = true := by kernel_rfl
theorem Xm : CL Tryz.prog 153 JM = true := by kernel_rfl
theorem IQ : CL Tryz.prog 154 BT = true := by kernel_rfl
theorem bm : CL Tryz.prog 156 Ml = true := by kernel_rfl
theorem bn : CL Tryz.prog 160 Mm = true := by kernel_rfl
theorem aH : CL Tryz.prog 161 Ky = true := by kernel_rfl
theorem Xn : CL Tryz.prog 162 JR = true := by kernel_rfl
theorem aI : CL Tryz.prog 163 Kz = true := by kernel_rfl
theorem Xo : CL Tryz.prog 164 JU = true := by kernel_rfl
theorem aJ : CL Tryz.prog 165 L3 = true := by kernel_rfl
theorem aK : CL Tryz.prog 166 L4 = true := by kernel_rfl
theorem IR : CL Tryz.prog 168 BU = true := by kernel_rfl
theorem M0 : CL Tryz.prog 171 CE = true := by kernel_rfl
theorem Xp : CL Tryz.prog 172 JV = true := by kernel_rfl
theorem WP : CL Tryz.prog 174 Hf = true := by kernel_rfl
theorem aL : CL Tryz.prog 175 L5 = true := by kernel_rfl
theorem NZ : CL Tryz.prog 179 D5 = true := by kernel_rfl
theorem sQ (f : FuncId) (fn : F) (h : FTT f = some fn) : CL Tryz.prog f fn = true := by
 unfold FTT at h
 split at h <;> cases h
 ·exact WF
 ·exact jM
 ·exact WG
 ·exact fj
 ·exact Zd
 ·exact WH
 ·exact WI
 ·exact Ze
 ·exact fk
 ·exact Zf
 ·exact WJ
 ·exact fl
 ·exact fm
 ·exact WK
 ·exact fo
 ·exact bT
 ·exact XZ
 ·exact bU
 ·exact V8
 ·exact Zg
 ·exact Zh
 ·exact Zi
 ·exact Zj
 ·exact V9
 ·exact OV
 ·exact bV
 ·exact lO
 ·exact Zk
 ·exact WL
 ·exact VA
 ·exact lP
 ·exact bW
 ·exact Zl
 ·exact Zm
 ·exact Zn
 ·exact fp
 ·exact Zo
 ·exact fq
 ·exact S9
 ·exact Xa
 ·exact Zp
 ·exact Zq
 ·exact Zr
 ·exact Xb
 ·exact Zs
 ·exact Zt
 ·exact RQ
 ·exact RR
 ·exact RT
 ·exact RU
 ·exact Tt
 ·exact OW
 ·exact Xc
 ·exact WM
 ·exact bX
 ·exact bY
 ·exact bZ
 ·exact Zu
 ·exact ba
 ·exact Zv
 ·exact bc
 ·exact Xd
 ·exact bd
 ·exact Zw
 ·exact be
 ·exact Zx
 ·exact bf
 ·exact bg
 ·exact Xe
 ·exact Xf
 ·exact Xg
 ·exact Tu
 ·exact Mt
 ·exact WN
 ·exact bh
 ·exact SA
 ·exact Zy
 ·exact Zz
 ·exact a7
 ·exact a8
 ·exact aA
 ·exact RW
 ·exact aB
 ·exact Xh
 ·exact aC
 ·exact aD
 ·exact aE
 ·exact RX
 ·exact OX
 ·exact bi
 ·exact Xi
 ·exact aF
 ·exact Xj
 ·exact WO
 ·exact aG
 ·exact bj
 ·exact bl
 ·exact Xk
 ·exact Xl
 ·exact RY
 ·exact Xm
 ·exact IQ
 ·exact bm
 ·exact bn
 ·exact aH
 ·exact Xn
 ·exact aI
 ·exact Xo
 ·exact aJ
 ·exact aK
 ·exact IR
 ·exact M0
 ·exact Xp
 ·exact WP
 ·exact aL
 ·exact NZ
theorem yg : DV GG Tryz.prog (dn ⟨FTT, [], []⟩) := cQ jt (by kernel_rfl) sQ
theorem RZ (q : Option Addr) (cap : Nat) : dn ⟨FTT, [], []⟩ Cu [.t (.v (.slice q 0 cap))] = some ⟨[.t (.sl true [])], []⟩ := by
 show dn ⟨FTT, [], []⟩ _ _ = _
 rw [A9 ⟨FTT, [], []⟩ (fn := Cz) rfl rfl (Nat.le_of_ble_eq_true rfl)]
 cases q <;> simp only [SS ⟨FTT, [], []⟩, S3, Cz, Option.isNone, show room 0 8 = some () from by unfold room; rw [if_pos ⟨by simp, by decide⟩], Rh, Nat.reduceAdd, Nat.reduceSub, Nat.reduceMul, Nat.reduceLeDiff, Nat.reduceLT, Nat.reduceEqDiff, Nat.reduceBEq, ↓reduceIte, reduceCtorEq] <;> rfl
theorem QA (q : Option Addr) (cap : Nat) : dn ⟨FTT, [], []⟩ Eo [.t (.v (.slice q 0 cap))] = some ⟨[.t (.sl true [])], []⟩ := by
 show dn ⟨FTT, [], []⟩ _ _ = _
 rw [A9 ⟨FTT, [], []⟩ (fn := CY) rfl rfl (Nat.le_of_ble_eq_true rfl)]
 cases q <;> simp only [SS ⟨FTT, [], []⟩, S3, CY, Option.isNone, show room 0 32 = some () from by unfold room; rw [if_pos ⟨by simp, by decide⟩], Rh, Nat.reduceAdd, Nat.reduceSub, Nat.reduceMul, Nat.reduceLeDiff, Nat.reduceLT, Nat.reduceEqDiff, Nat.reduceBEq, ↓reduceIte, reduceCtorEq] <;> rfl
theorem QB (q : Option Addr) (cap : Nat) : dn ⟨FTT, [], []⟩ En [.t (.v (.slice q 0 cap))] = some ⟨[.t (.sl true [])], []⟩ := by
 show dn ⟨FTT, [], []⟩ _ _ = _
 rw [A9 ⟨FTT, [], []⟩ (fn := CZ) rfl rfl (Nat.le_of_ble_eq_true rfl)]
 cases q <;> simp only [SS ⟨FTT, [], []⟩, S3, CZ, Option.isNone, show room 0 64 = some () from by unfold room; rw [if_pos ⟨by simp, by decide⟩], Rh, Nat.reduceAdd, Nat.reduceSub, Nat.reduceMul, Nat.reduceLeDiff, Nat.reduceLT, Nat.reduceEqDiff, Nat.reduceBEq, ↓reduceIte, reduceCtorEq] <;> rfl
theorem soundA : DV GG Tryz.prog (dn AF) := cQ (cR (dc yg (fun f hf q cap => by
 simp only [AF, List.contains_cons, List.contains_nil, Bool.or_false, Bool.or_eq_true, beq_iff_eq] at hf
 rcases hf with rfl | rfl | rfl
 ·exact RZ q cap
 ·exact QA q cap
 ·exact QB q cap
)) yf) (by kernel_rfl) sQ
end TT
