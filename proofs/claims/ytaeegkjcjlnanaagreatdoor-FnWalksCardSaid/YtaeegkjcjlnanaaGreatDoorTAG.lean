import Derived.Test.YtaeegkjcjlnanaaGreatDoorTKK
import Derived.Test.YtaeegkjcjlnanaaGreatDoorTD25
import Derived.Test.YtaeegkjcjlnanaaGreatDoorTE
import Derived.Test.YtaeegkjcjlnanaaGreatDoorProg
import Derived.KernelRfl
import Derived.Test.YtaeegkjcjlnanaaGreatDoorTFnWalksLib
import Derived.Test.YtaeegkjcjlnanaaGreatDoorTHX4
namespace TT
open Go Go.Proofs
set_option maxRecDepth 100000
set_option linter.unusedSimpArgs false
set_option linter.unusedVariables false
theorem Xy : C9 Tryz.prog 4 IV = true := by kernel_rfl
theorem kC : C9 Tryz.prog 6 Pf = true := by kernel_rfl
theorem Wl : C9 Tryz.prog 10 HJ = true := by kernel_rfl
theorem aM : C9 Tryz.prog 12 KQ = true := by kernel_rfl
theorem Wm : C9 Tryz.prog 13 HK = true := by kernel_rfl
theorem Wn : C9 Tryz.prog 14 HH = true := by kernel_rfl
theorem gy : C9 Tryz.prog 15 Ns = true := by kernel_rfl
theorem gz : C9 Tryz.prog 16 Nt = true := by kernel_rfl
theorem cS : C9 Tryz.prog 17 Ma = true := by kernel_rfl
theorem cT : C9 Tryz.prog 18 Mb = true := by kernel_rfl
theorem mV : C9 Tryz.prog 19 Rs = true := by kernel_rfl
theorem mW : C9 Tryz.prog 20 Rt = true := by kernel_rfl
theorem aN : C9 Tryz.prog 21 KR = true := by kernel_rfl
theorem cU : C9 Tryz.prog 22 Mc = true := by kernel_rfl
theorem cV : C9 Tryz.prog 23 Me = true := by kernel_rfl
theorem hH : C9 Tryz.prog 24 Nu = true := by kernel_rfl
theorem aO : C9 Tryz.prog 28 KU = true := by kernel_rfl
theorem Wo : C9 Tryz.prog 29 HL = true := by kernel_rfl
theorem cW : C9 Tryz.prog 34 Mf = true := by kernel_rfl
theorem aP : C9 Tryz.prog 35 KS = true := by kernel_rfl
theorem aQ : C9 Tryz.prog 36 KW = true := by kernel_rfl
theorem Xz : C9 Tryz.prog 37 Ic = true := by kernel_rfl
theorem cX : C9 Tryz.prog 38 Mj = true := by kernel_rfl
theorem Vb : C9 Tryz.prog 40 GV = true := by kernel_rfl
theorem aR : C9 Tryz.prog 41 Kb = true := by kernel_rfl
theorem aS : C9 Tryz.prog 43 KV = true := by kernel_rfl
theorem Y0 : C9 Tryz.prog 44 IY = true := by kernel_rfl
theorem aT : C9 Tryz.prog 46 Kc = true := by kernel_rfl
theorem aU : C9 Tryz.prog 48 KX = true := by kernel_rfl
theorem Vc : C9 Tryz.prog 49 GY = true := by kernel_rfl
theorem Om : C9 Tryz.prog 50 D9 = true := by kernel_rfl
theorem cY : C9 Tryz.prog 51 Mg = true := by kernel_rfl
theorem mX : C9 Tryz.prog 52 Ru = true := by kernel_rfl
theorem aV : C9 Tryz.prog 53 KT = true := by kernel_rfl
theorem cZ : C9 Tryz.prog 54 Mh = true := by kernel_rfl
theorem Y1 : C9 Tryz.prog 55 IW = true := by kernel_rfl
theorem cd : C9 Tryz.prog 56 Mi = true := by kernel_rfl
theorem Y2 : C9 Tryz.prog 57 IX = true := by kernel_rfl
theorem aW : C9 Tryz.prog 58 KY = true := by kernel_rfl
theorem Vd : C9 Tryz.prog 60 GX = true := by kernel_rfl
theorem mY : C9 Tryz.prog 61 Rv = true := by kernel_rfl
theorem aX : C9 Tryz.prog 63 Ax = true := by kernel_rfl
theorem aY : C9 Tryz.prog 64 Ka = true := by kernel_rfl
theorem aZ : C9 Tryz.prog 65 KZ = true := by kernel_rfl
theorem Y3 : C9 Tryz.prog 66 Ib = true := by kernel_rfl
theorem hJ : C9 Tryz.prog 67 Nv = true := by kernel_rfl
theorem ae : C9 Tryz.prog 68 Kf = true := by kernel_rfl
theorem hQ : C9 Tryz.prog 69 Nw = true := by kernel_rfl
theorem SI : C9 Tryz.prog 70 Cu = true := by kernel_rfl
theorem Y4 : C9 Tryz.prog 71 Io = true := by kernel_rfl
theorem af : C9 Tryz.prog 72 Kg = true := by kernel_rfl
theorem ah : C9 Tryz.prog 73 Kh = true := by kernel_rfl
theorem ai : C9 Tryz.prog 74 Ki = true := by kernel_rfl
theorem Y5 : C9 Tryz.prog 79 Ir = true := by kernel_rfl
theorem aj : C9 Tryz.prog 80 Kj = true := by kernel_rfl
theorem al : C9 Tryz.prog 82 Kd = true := by kernel_rfl
theorem RZ : C9 Tryz.prog 83 El = true := by kernel_rfl
theorem Ra : C9 Tryz.prog 84 Em = true := by kernel_rfl
theorem Rb : C9 Tryz.prog 86 CU = true := by kernel_rfl
theorem Rc : C9 Tryz.prog 87 CV = true := by kernel_rfl
theorem U9 : C9 Tryz.prog 88 Fv = true := by kernel_rfl
theorem cf : C9 Tryz.prog 92 Mk = true := by kernel_rfl
theorem cg : C9 Tryz.prog 93 Ml = true := by kernel_rfl
theorem cj : C9 Tryz.prog 94 Mm = true := by kernel_rfl
theorem am : C9 Tryz.prog 95 Ke = true := by kernel_rfl
theorem cm : C9 Tryz.prog 96 Mn = true := by kernel_rfl
theorem ao : C9 Tryz.prog 97 Kk = true := by kernel_rfl
theorem cn : C9 Tryz.prog 98 Mo = true := by kernel_rfl
theorem Y6 : C9 Tryz.prog 99 Iw = true := by kernel_rfl
theorem cr : C9 Tryz.prog 100 Mq = true := by kernel_rfl
theorem aq : C9 Tryz.prog 101 Kl = true := by kernel_rfl
theorem cu : C9 Tryz.prog 102 Mp = true := by kernel_rfl
theorem au : C9 Tryz.prog 103 Ko = true := by kernel_rfl
theorem cw : C9 Tryz.prog 104 Mr = true := by kernel_rfl
theorem cx : C9 Tryz.prog 105 Ms = true := by kernel_rfl
theorem Y7 : C9 Tryz.prog 106 Iz = true := by kernel_rfl
theorem Y8 : C9 Tryz.prog 107 J2 = true := by kernel_rfl
theorem Y9 : C9 Tryz.prog 108 J5 = true := by kernel_rfl
theorem UA : C9 Tryz.prog 109 Fw = true := by kernel_rfl
theorem N7 : C9 Tryz.prog 110 CN = true := by kernel_rfl
theorem Wp : C9 Tryz.prog 111 HV = true := by kernel_rfl
theorem cy : C9 Tryz.prog 120 Mt = true := by kernel_rfl
theorem av : C9 Tryz.prog 123 Km = true := by kernel_rfl
theorem aw : C9 Tryz.prog 124 Kn = true := by kernel_rfl
theorem ax : C9 Tryz.prog 125 Kp = true := by kernel_rfl
theorem ay : C9 Tryz.prog 126 Kq = true := by kernel_rfl
theorem az : C9 Tryz.prog 127 Kr = true := by kernel_rfl
theorem Rd : C9 Tryz.prog 128 En = true := by kernel_rfl
theorem b5 : C9 Tryz.prog 129 Ks = true := by kernel_rfl
theorem YA : C9 Tryz.prog 130 J6 = true := by kernel_rfl
theorem b6 : C9 Tryz.prog 131 Kt = true := by kernel_rfl
theorem b7 : C9 Tryz.prog 132 Ku = true := by kernel_rfl
theorem b8 : C9 Tryz.prog 133 Kv = true := by kernel_rfl
theorem Re : C9 Tryz.prog 134 Eo = true := by kernel_rfl
theorem On : C9 Tryz.prog 135 DA = true := by kernel_rfl
theorem cz : C9 Tryz.prog 140 Mu = true := by kernel_rfl
theorem YB : C9 Tryz.prog 141 J7 = true := by kernel_rfl
theorem b9 : C9 Tryz.prog 142 Kw = true := by kernel_rfl
theorem YC : C9 Tryz.prog 143 JA = true := by kernel_rfl
theorem Wq : C9 Tryz.prog 144 HU = true := by kernel_rfl
theorem bA : C9 Tryz.prog 145 Kx = true := by kernel_rfl
theorem d7 : C9 Tryz.prog 146 Mv = true := by kernel_rfl
theorem d8 : C9 Tryz.prog 147 Mw = true := by kernel_rfl
theorem YD : C9 Tryz.prog 148 JB = true := by kernel_rfl
theorem YE : C9 Tryz.prog 149 JE = true := by kernel_rfl
theorem Rf : C9 Tryz.prog 151 Ep = true := by kernel_rfl
theorem YF : C9 Tryz.prog 153 JF = true := by kernel_rfl
theorem IE : C9 Tryz.prog 154 BP = true := by kernel_rfl
theorem d9 : C9 Tryz.prog 156 Mx = true := by kernel_rfl
theorem dA : C9 Tryz.prog 160 My = true := by kernel_rfl
theorem bB : C9 Tryz.prog 161 Ky = true := by kernel_rfl
theorem YG : C9 Tryz.prog 162 JK = true := by kernel_rfl
theorem bC : C9 Tryz.prog 163 Kz = true := by kernel_rfl
theorem YH : C9 Tryz.prog 164 JN = true := by kernel_rfl
theorem bD : C9 Tryz.prog 165 L3 = true := by kernel_rfl
theorem bE : C9 Tryz.prog 166 L4 = true := by kernel_rfl
theorem IF : C9 Tryz.prog 168 BQ = true := by kernel_rfl
theorem M4 : C9 Tryz.prog 171 CB = true := by kernel_rfl
theorem YI : C9 Tryz.prog 172 JO = true := by kernel_rfl
theorem Wr : C9 Tryz.prog 174 HW = true := by kernel_rfl
theorem bF : C9 Tryz.prog 175 L5 = true := by kernel_rfl
theorem Nm : C9 Tryz.prog 179 D3 = true := by kernel_rfl
theorem tc (f : FuncId) (fn : F) (h : FTT f = some fn) : C9 Tryz.prog f fn = true := by
 unfold FTT at h
 split at h <;> cases h
 ·exact Xy
 ·exact kC
 ·exact Wl
 ·exact aM
 ·exact Wm
 ·exact Wn
 ·exact gy
 ·exact gz
 ·exact cS
 ·exact cT
 ·exact mV
 ·exact mW
 ·exact aN
 ·exact cU
 ·exact cV
 ·exact hH
 ·exact aO
 ·exact Wo
 ·exact cW
 ·exact aP
 ·exact aQ
 ·exact Xz
 ·exact cX
 ·exact Vb
 ·exact aR
 ·exact aS
 ·exact Y0
 ·exact aT
 ·exact aU
 ·exact Vc
 ·exact Om
 ·exact cY
 ·exact mX
 ·exact aV
 ·exact cZ
 ·exact Y1
 ·exact cd
 ·exact Y2
 ·exact aW
 ·exact Vd
 ·exact mY
 ·exact aX
 ·exact aY
 ·exact aZ
 ·exact Y3
 ·exact hJ
 ·exact ae
 ·exact hQ
 ·exact SI
 ·exact Y4
 ·exact af
 ·exact ah
 ·exact ai
 ·exact Y5
 ·exact aj
 ·exact al
 ·exact RZ
 ·exact Ra
 ·exact Rb
 ·exact Rc
 ·exact U9
 ·exact cf
 ·exact cg
 ·exact cj
 ·exact am
 ·exact cm
 ·exact ao
 ·exact cn
 ·exact Y6
 ·exact cr
 ·exact aq
 ·exact cu
 ·exact au
 ·exact cw
 ·exact cx
 ·exact Y7
 ·exact Y8
 ·exact Y9
 ·exact UA
 ·exact N7
 ·exact Wp
 ·exact cy
 ·exact av
 ·exact aw
 ·exact ax
 ·exact ay
 ·exact az
 ·exact Rd
 ·exact b5
 ·exact YA
 ·exact b6
 ·exact b7
 ·exact b8
 ·exact Re
 ·exact On
 ·exact cz
 ·exact YB
 ·exact b9
 ·exact YC
 ·exact Wq
 ·exact bA
 ·exact d7
 ·exact d8
 ·exact YD
 ·exact YE
 ·exact Rf
 ·exact YF
 ·exact IE
 ·exact d9
 ·exact dA
 ·exact bB
 ·exact YG
 ·exact bC
 ·exact YH
 ·exact bD
 ·exact bE
 ·exact IF
 ·exact M4
 ·exact YI
 ·exact Wr
 ·exact bF
 ·exact Nm
theorem zl : DP GG Tryz.prog (dn ⟨FTT, [], []⟩) := dY kl (by kernel_rfl) tc
theorem Rg (q : Option Addr) (cap : Nat) : dn ⟨FTT, [], []⟩ Dk [.t (.v (.slice q 0 cap))] = some ⟨[.t (.sl true [])], []⟩ := by
 show dn ⟨FTT, [], []⟩ _ _ = _
 rw [A9 ⟨FTT, [], []⟩ (fn := Cu) rfl rfl (Nat.le_of_ble_eq_true rfl)]
 cases q <;> simp only [SS ⟨FTT, [], []⟩, S3, Cu, Option.isNone, show room 0 8 = some () from by unfold room; rw [if_pos ⟨by simp, by decide⟩], Ro, Nat.reduceAdd, Nat.reduceSub, Nat.reduceMul, Nat.reduceLeDiff, Nat.reduceLT, Nat.reduceEqDiff, Nat.reduceBEq, ↓reduceIte, reduceCtorEq] <;> rfl
theorem QH (q : Option Addr) (cap : Nat) : dn ⟨FTT, [], []⟩ Ek [.t (.v (.slice q 0 cap))] = some ⟨[.t (.sl true [])], []⟩ := by
 show dn ⟨FTT, [], []⟩ _ _ = _
 rw [A9 ⟨FTT, [], []⟩ (fn := CU) rfl rfl (Nat.le_of_ble_eq_true rfl)]
 cases q <;> simp only [SS ⟨FTT, [], []⟩, S3, CU, Option.isNone, show room 0 32 = some () from by unfold room; rw [if_pos ⟨by simp, by decide⟩], Ro, Nat.reduceAdd, Nat.reduceSub, Nat.reduceMul, Nat.reduceLeDiff, Nat.reduceLT, Nat.reduceEqDiff, Nat.reduceBEq, ↓reduceIte, reduceCtorEq] <;> rfl
theorem QI (q : Option Addr) (cap : Nat) : dn ⟨FTT, [], []⟩ Ej [.t (.v (.slice q 0 cap))] = some ⟨[.t (.sl true [])], []⟩ := by
 show dn ⟨FTT, [], []⟩ _ _ = _
 rw [A9 ⟨FTT, [], []⟩ (fn := CV) rfl rfl (Nat.le_of_ble_eq_true rfl)]
 cases q <;> simp only [SS ⟨FTT, [], []⟩, S3, CV, Option.isNone, show room 0 64 = some () from by unfold room; rw [if_pos ⟨by simp, by decide⟩], Ro, Nat.reduceAdd, Nat.reduceSub, Nat.reduceMul, Nat.reduceLeDiff, Nat.reduceLT, Nat.reduceEqDiff, Nat.reduceBEq, ↓reduceIte, reduceCtorEq] <;> rfl
theorem soundA : DP GG Tryz.prog (dn AG) := dY (dZ (ep zl (fun f hf q cap => by
 simp only [AG, List.contains_cons, List.contains_nil, Bool.or_false, Bool.or_eq_true, beq_iff_eq] at hf
 rcases hf with rfl | rfl | rfl
 ·exact Rg q cap
 ·exact QH q cap
 ·exact QI q cap
)) zk) (by kernel_rfl) tc
end TT
