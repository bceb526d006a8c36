import Derived.Test.YtpmnlfgdicmiiaaGreatDoorTKK
import Derived.Test.YtpmnlfgdicmiiaaGreatDoorTD25
import Derived.Test.YtpmnlfgdicmiiaaGreatDoorTE
import Derived.Test.YtpmnlfgdicmiiaaGreatDoorProg
import Derived.KernelRfl
import Derived.Test.YtpmnlfgdicmiiaaGreatDoorTFnTellsLib
import Derived.Test.YtpmnlfgdicmiiaaGreatDoorTHX4
namespace TT
open Go Go.Proofs
set_option maxRecDepth 100000
set_option linter.unusedSimpArgs false
set_option linter.unusedVariables false
theorem jA : CQ Tryz.prog 5 Nz=true:=by kernel_rfl
theorem tq : CQ Tryz.prog 15 Uh=true:=by kernel_rfl
theorem wy : CQ Tryz.prog 27 Wi=true:=by kernel_rfl
theorem mn : CQ Tryz.prog 29 Qf=true:=by kernel_rfl
theorem cN : CQ Tryz.prog 30 K6=true:=by kernel_rfl
theorem mo : CQ Tryz.prog 31 QR=true:=by kernel_rfl
theorem mp : CQ Tryz.prog 32 QS=true:=by kernel_rfl
theorem Zt : CQ Tryz.prog 33 JA=true:=by kernel_rfl
theorem jB : CQ Tryz.prog 34 O6=true:=by kernel_rfl
theorem jC : CQ Tryz.prog 35 O7=true:=by kernel_rfl
theorem jD : CQ Tryz.prog 36 O8=true:=by kernel_rfl
theorem mq : CQ Tryz.prog 37 QT=true:=by kernel_rfl
theorem fu : CQ Tryz.prog 38 MM=true:=by kernel_rfl
theorem jE : CQ Tryz.prog 39 O9=true:=by kernel_rfl
theorem mr : CQ Tryz.prog 46 QZ=true:=by kernel_rfl
theorem pF : CQ Tryz.prog 47 T8=true:=by kernel_rfl
theorem mt : CQ Tryz.prog 51 QW=true:=by kernel_rfl
theorem mu : CQ Tryz.prog 59 QX=true:=by kernel_rfl
theorem pG : CQ Tryz.prog 60 T7=true:=by kernel_rfl
theorem pH : CQ Tryz.prog 61 T9=true:=by kernel_rfl
theorem ZE : CQ Tryz.prog 62 IK=true:=by kernel_rfl
theorem Zu : CQ Tryz.prog 63 JJ=true:=by kernel_rfl
theorem Zv : CQ Tryz.prog 64 JF=true:=by kernel_rfl
theorem pI : CQ Tryz.prog 80 T5=true:=by kernel_rfl
theorem mw : CQ Tryz.prog 81 QU=true:=by kernel_rfl
theorem fw : CQ Tryz.prog 82 MY=true:=by kernel_rfl
theorem jF : CQ Tryz.prog 83 OC=true:=by kernel_rfl
theorem za : CQ Tryz.prog 84 ZV=true:=by kernel_rfl
theorem my : CQ Tryz.prog 85 QV=true:=by kernel_rfl
theorem fy : CQ Tryz.prog 86 MN=true:=by kernel_rfl
theorem tr : CQ Tryz.prog 87 Ui=true:=by kernel_rfl
theorem jG : CQ Tryz.prog 88 OE=true:=by kernel_rfl
theorem pJ : CQ Tryz.prog 89 T6=true:=by kernel_rfl
theorem jH : CQ Tryz.prog 90 OF=true:=by kernel_rfl
theorem Vc : CQ Tryz.prog 91 Fd=true:=by kernel_rfl
theorem eR : CQ Tryz.prog 92 LB=true:=by kernel_rfl
theorem ZF : CQ Tryz.prog 93 IL=true:=by kernel_rfl
theorem eS : CQ Tryz.prog 94 L8=true:=by kernel_rfl
theorem Zw : CQ Tryz.prog 95 JM=true:=by kernel_rfl
theorem eT : CQ Tryz.prog 96 L9=true:=by kernel_rfl
theorem gA : CQ Tryz.prog 97 MO=true:=by kernel_rfl
theorem gB : CQ Tryz.prog 98 MP=true:=by kernel_rfl
theorem mz : CQ Tryz.prog 103 Qi=true:=by kernel_rfl
theorem n7 : CQ Tryz.prog 104 Qj=true:=by kernel_rfl
theorem eU : CQ Tryz.prog 105 LA=true:=by kernel_rfl
theorem n8 : CQ Tryz.prog 106 Qd=true:=by kernel_rfl
theorem jI : CQ Tryz.prog 107 OM=true:=by kernel_rfl
theorem n9 : CQ Tryz.prog 114 Qa=true:=by kernel_rfl
theorem nB : CQ Tryz.prog 119 Qe=true:=by kernel_rfl
theorem nC : CQ Tryz.prog 121 Qc=true:=by kernel_rfl
theorem pK : CQ Tryz.prog 122 TB=true:=by kernel_rfl
theorem jJ : CQ Tryz.prog 123 P4=true:=by kernel_rfl
theorem TY : CQ Tryz.prog 125 EM=true:=by kernel_rfl
theorem jK : CQ Tryz.prog 126 P2=true:=by kernel_rfl
theorem TZ : CQ Tryz.prog 127 CG=true:=by kernel_rfl
theorem eV : CQ Tryz.prog 128 LK=true:=by kernel_rfl
theorem Ta : CQ Tryz.prog 129 EN=true:=by kernel_rfl
theorem pL : CQ Tryz.prog 130 TC=true:=by kernel_rfl
theorem X6 : CQ Tryz.prog 131 Gv=true:=by kernel_rfl
theorem Xl : CQ Tryz.prog 132 HO=true:=by kernel_rfl
theorem Zx : CQ Tryz.prog 133 JP=true:=by kernel_rfl
theorem WR : CQ Tryz.prog 135 G1=true:=by kernel_rfl
theorem Xm : CQ Tryz.prog 136 HQ=true:=by kernel_rfl
theorem Xn : CQ Tryz.prog 137 HR=true:=by kernel_rfl
theorem UU : CQ Tryz.prog 138 Eo=true:=by kernel_rfl
theorem nE : CQ Tryz.prog 145 QY=true:=by kernel_rfl
theorem tt : CQ Tryz.prog 146 Uj=true:=by kernel_rfl
theorem Zy : CQ Tryz.prog 147 Ew=true:=by kernel_rfl
theorem pM : CQ Tryz.prog 148 TA=true:=by kernel_rfl
theorem nF : CQ Tryz.prog 149 Qb=true:=by kernel_rfl
theorem ZG : CQ Tryz.prog 150 EW=true:=by kernel_rfl
theorem ZH : CQ Tryz.prog 151 EX=true:=by kernel_rfl
theorem cO : CQ Tryz.prog 152 K8=true:=by kernel_rfl
theorem gC : CQ Tryz.prog 154 MU=true:=by kernel_rfl
theorem jL : CQ Tryz.prog 157 Oc=true:=by kernel_rfl
theorem nG : CQ Tryz.prog 158 Qq=true:=by kernel_rfl
theorem pN : CQ Tryz.prog 159 TD=true:=by kernel_rfl
theorem eW : CQ Tryz.prog 160 LF=true:=by kernel_rfl
theorem gD : CQ Tryz.prog 161 MX=true:=by kernel_rfl
theorem jM : CQ Tryz.prog 162 OW=true:=by kernel_rfl
theorem nH : CQ Tryz.prog 163 Qm=true:=by kernel_rfl
theorem pO : CQ Tryz.prog 164 TH=true:=by kernel_rfl
theorem pP : CQ Tryz.prog 169 TG=true:=by kernel_rfl
theorem jN : CQ Tryz.prog 171 OZ=true:=by kernel_rfl
theorem nI : CQ Tryz.prog 172 Qn=true:=by kernel_rfl
theorem nJ : CQ Tryz.prog 173 Qo=true:=by kernel_rfl
theorem Tb : CQ Tryz.prog 177 EO=true:=by kernel_rfl
theorem gE : CQ Tryz.prog 179 Mb=true:=by kernel_rfl
theorem nK : CQ Tryz.prog 180 R3=true:=by kernel_rfl
theorem nL : CQ Tryz.prog 181 Qk=true:=by kernel_rfl
theorem jO : CQ Tryz.prog 182 OV=true:=by kernel_rfl
theorem nM : CQ Tryz.prog 183 Ql=true:=by kernel_rfl
theorem Vd : CQ Tryz.prog 185 Fe=true:=by kernel_rfl
theorem Ve : CQ Tryz.prog 186 D4=true:=by kernel_rfl
theorem Vf : CQ Tryz.prog 187 Ff=true:=by kernel_rfl
theorem pQ : CQ Tryz.prog 188 TI=true:=by kernel_rfl
theorem Zz : CQ Tryz.prog 189 JQ=true:=by kernel_rfl
theorem Rh : CQ Tryz.prog 194 Dr=true:=by kernel_rfl
theorem gF : CQ Tryz.prog 195 MZ=true:=by kernel_rfl
theorem cP : CQ Tryz.prog 196 KD=true:=by kernel_rfl
theorem nN : CQ Tryz.prog 198 Qg=true:=by kernel_rfl
theorem pR : CQ Tryz.prog 199 TF=true:=by kernel_rfl
theorem nO : CQ Tryz.prog 200 Qh=true:=by kernel_rfl
theorem pS : CQ Tryz.prog 201 TE=true:=by kernel_rfl
theorem eX : CQ Tryz.prog 203 LG=true:=by kernel_rfl
theorem pT : CQ Tryz.prog 206 TM=true:=by kernel_rfl
theorem eY : CQ Tryz.prog 207 LJ=true:=by kernel_rfl
theorem nP : CQ Tryz.prog 208 Qt=true:=by kernel_rfl
theorem jP : CQ Tryz.prog 209 Oo=true:=by kernel_rfl
theorem nQ : CQ Tryz.prog 210 Qu=true:=by kernel_rfl
theorem jQ : CQ Tryz.prog 211 Ou=true:=by kernel_rfl
theorem nR : CQ Tryz.prog 215 Qv=true:=by kernel_rfl
theorem pU : CQ Tryz.prog 216 TJ=true:=by kernel_rfl
theorem pV : CQ Tryz.prog 217 TK=true:=by kernel_rfl
theorem jR : CQ Tryz.prog 218 Ox=true:=by kernel_rfl
theorem jS : CQ Tryz.prog 219 P0=true:=by kernel_rfl
theorem cQ : CQ Tryz.prog 220 KB=true:=by kernel_rfl
theorem gG : CQ Tryz.prog 221 Mf=true:=by kernel_rfl
theorem Vg : CQ Tryz.prog 223 Fg=true:=by kernel_rfl
theorem nS : CQ Tryz.prog 224 Qr=true:=by kernel_rfl
theorem jT : CQ Tryz.prog 225 Of=true:=by kernel_rfl
theorem nT : CQ Tryz.prog 226 Qs=true:=by kernel_rfl
theorem jU : CQ Tryz.prog 227 Oi=true:=by kernel_rfl
theorem WS : CQ Tryz.prog 229 G2=true:=by kernel_rfl
theorem jV : CQ Tryz.prog 230 P5=true:=by kernel_rfl
theorem a7 : CQ Tryz.prog 231 JR=true:=by kernel_rfl
theorem MH : CQ Tryz.prog 236 CW=true:=by kernel_rfl
theorem cR : CQ Tryz.prog 245 KC=true:=by kernel_rfl
theorem gH : CQ Tryz.prog 246 Mg=true:=by kernel_rfl
theorem nU : CQ Tryz.prog 248 Qp=true:=by kernel_rfl
theorem pW : CQ Tryz.prog 252 TO=true:=by kernel_rfl
theorem jW : CQ Tryz.prog 253 P8=true:=by kernel_rfl
theorem gI : CQ Tryz.prog 254 Me=true:=by kernel_rfl
theorem nV : CQ Tryz.prog 255 R2=true:=by kernel_rfl
theorem pX : CQ Tryz.prog 256 TP=true:=by kernel_rfl
theorem jX : CQ Tryz.prog 257 P9=true:=by kernel_rfl
theorem gJ : CQ Tryz.prog 258 Mc=true:=by kernel_rfl
theorem nW : CQ Tryz.prog 259 Qx=true:=by kernel_rfl
theorem nX : CQ Tryz.prog 260 Qy=true:=by kernel_rfl
theorem nY : CQ Tryz.prog 261 Qz=true:=by kernel_rfl
theorem ZI : CQ Tryz.prog 262 IM=true:=by kernel_rfl
theorem nZ : CQ Tryz.prog 263 R0=true:=by kernel_rfl
theorem nc : CQ Tryz.prog 264 R1=true:=by kernel_rfl
theorem ZJ : CQ Tryz.prog 265 IN=true:=by kernel_rfl
theorem pY : CQ Tryz.prog 268 TN=true:=by kernel_rfl
theorem nd : CQ Tryz.prog 269 Qw=true:=by kernel_rfl
theorem pZ : CQ Tryz.prog 275 TL=true:=by kernel_rfl
theorem pc : CQ Tryz.prog 285 TQ=true:=by kernel_rfl
theorem nf : CQ Tryz.prog 286 R4=true:=by kernel_rfl
theorem ZK : CQ Tryz.prog 287 IP=true:=by kernel_rfl
theorem jY : CQ Tryz.prog 289 PC=true:=by kernel_rfl
theorem Nd : CQ Tryz.prog 290 Cw=true:=by kernel_rfl
theorem SV : CQ Tryz.prog 293 E6=true:=by kernel_rfl
theorem jZ : CQ Tryz.prog 294 PD=true:=by kernel_rfl
theorem Nf : CQ Tryz.prog 302 Cy=true:=by kernel_rfl
theorem Ua : CQ Tryz.prog 305 FH=true:=by kernel_rfl
theorem A5v (f:FuncId) (fn:F) (h:FTT f=some fn):CQ Tryz.prog f fn=true:=by
 unfold FTT at h
 split at h<;>cases h
 ·exact jA
 ·exact tq
 ·exact wy
 ·exact mn
 ·exact cN
 ·exact mo
 ·exact mp
 ·exact Zt
 ·exact jB
 ·exact jC
 ·exact jD
 ·exact mq
 ·exact fu
 ·exact jE
 ·exact mr
 ·exact pF
 ·exact mt
 ·exact mu
 ·exact pG
 ·exact pH
 ·exact ZE
 ·exact Zu
 ·exact Zv
 ·exact pI
 ·exact mw
 ·exact fw
 ·exact jF
 ·exact za
 ·exact my
 ·exact fy
 ·exact tr
 ·exact jG
 ·exact pJ
 ·exact jH
 ·exact Vc
 ·exact eR
 ·exact ZF
 ·exact eS
 ·exact Zw
 ·exact eT
 ·exact gA
 ·exact gB
 ·exact mz
 ·exact n7
 ·exact eU
 ·exact n8
 ·exact jI
 ·exact n9
 ·exact nB
 ·exact nC
 ·exact pK
 ·exact jJ
 ·exact TY
 ·exact jK
 ·exact TZ
 ·exact eV
 ·exact Ta
 ·exact pL
 ·exact X6
 ·exact Xl
 ·exact Zx
 ·exact WR
 ·exact Xm
 ·exact Xn
 ·exact UU
 ·exact nE
 ·exact tt
 ·exact Zy
 ·exact pM
 ·exact nF
 ·exact ZG
 ·exact ZH
 ·exact cO
 ·exact gC
 ·exact jL
 ·exact nG
 ·exact pN
 ·exact eW
 ·exact gD
 ·exact jM
 ·exact nH
 ·exact pO
 ·exact pP
 ·exact jN
 ·exact nI
 ·exact nJ
 ·exact Tb
 ·exact gE
 ·exact nK
 ·exact nL
 ·exact jO
 ·exact nM
 ·exact Vd
 ·exact Ve
 ·exact Vf
 ·exact pQ
 ·exact Zz
 ·exact Rh
 ·exact gF
 ·exact cP
 ·exact nN
 ·exact pR
 ·exact nO
 ·exact pS
 ·exact eX
 ·exact pT
 ·exact eY
 ·exact nP
 ·exact jP
 ·exact nQ
 ·exact jQ
 ·exact nR
 ·exact pU
 ·exact pV
 ·exact jR
 ·exact jS
 ·exact cQ
 ·exact gG
 ·exact Vg
 ·exact nS
 ·exact jT
 ·exact nT
 ·exact jU
 ·exact WS
 ·exact jV
 ·exact a7
 ·exact MH
 ·exact cR
 ·exact gH
 ·exact nU
 ·exact pW
 ·exact jW
 ·exact gI
 ·exact nV
 ·exact pX
 ·exact jX
 ·exact gJ
 ·exact nW
 ·exact nX
 ·exact nY
 ·exact ZI
 ·exact nZ
 ·exact nc
 ·exact ZJ
 ·exact pY
 ·exact nd
 ·exact pZ
 ·exact pc
 ·exact nf
 ·exact ZK
 ·exact jY
 ·exact Nd
 ·exact SV
 ·exact jZ
 ·exact Nf
 ·exact Ua
theorem ABI : EY GG Tryz.prog (dn ⟨FTT,[],[]⟩):=qH xu (by kernel_rfl) fun f fn h=> .inl (A5v f fn h)
theorem Xo (q:Option Addr) (cap:Nat):dn ⟨FTT,[],[]⟩ II [.t (.v (.slice q 0 cap))]=some ⟨[.t (.sl true [])],[]⟩:=by
 show dn ⟨FTT,[],[]⟩ _ _=_
 rw[AB ⟨FTT,[],[]⟩ (fn:=EW) rfl rfl (Nat.le_of_ble_eq_true rfl)]
 cases q<;>simp only[SS ⟨FTT,[],[]⟩,S3,EW,Option.isNone,show room 0 32=some ()from by unfold room;rw[if_pos ⟨by simp,by decide⟩],ZT,Nat.reduceAdd,Nat.reduceSub,Nat.reduceMul,Nat.reduceLeDiff,Nat.reduceLT,Nat.reduceEqDiff,Nat.reduceBEq,↓reduceIte,reduceCtorEq]<;>rfl
theorem Xp (q:Option Addr) (cap:Nat):dn ⟨FTT,[],[]⟩ IH [.t (.v (.slice q 0 cap))]=some ⟨[.t (.sl true [])],[]⟩:=by
 show dn ⟨FTT,[],[]⟩ _ _=_
 rw[AB ⟨FTT,[],[]⟩ (fn:=EX) rfl rfl (Nat.le_of_ble_eq_true rfl)]
 cases q<;>simp only[SS ⟨FTT,[],[]⟩,S3,EX,Option.isNone,show room 0 64=some ()from by unfold room;rw[if_pos ⟨by simp,by decide⟩],ZT,Nat.reduceAdd,Nat.reduceSub,Nat.reduceMul,Nat.reduceLeDiff,Nat.reduceLT,Nat.reduceEqDiff,Nat.reduceBEq,↓reduceIte,reduceCtorEq]<;>rfl
theorem ZL (q:Option Addr) (cap:Nat):dn ⟨FTT,[],[]⟩ J8 [.t (.v (.slice q 0 cap))]=some ⟨[.t (.sl true [])],[]⟩:=by
 show dn ⟨FTT,[],[]⟩ _ _=_
 rw[AB ⟨FTT,[],[]⟩ (fn:=Ew) rfl rfl (Nat.le_of_ble_eq_true rfl)]
 cases q<;>simp only[SS ⟨FTT,[],[]⟩,S3,Ew,Option.isNone,show room 0 8=some ()from by unfold room;rw[if_pos ⟨by simp,by decide⟩],ZT,Nat.reduceAdd,Nat.reduceSub,Nat.reduceMul,Nat.reduceLeDiff,Nat.reduceLT,Nat.reduceEqDiff,Nat.reduceBEq,↓reduceIte,reduceCtorEq]<;>rfl
theorem soundA : EY GG Tryz.prog (dn AL):=qH (qI (rX ABI (fun f hf q cap=>by
 simp only[AL,List.contains_cons,List.contains_nil,Bool.or_false,Bool.or_eq_true,beq_iff_eq]at hf
 rcases hf with rfl|rfl|rfl
 ·exact Xo q cap
 ·exact Xp q cap
 ·exact ZL q cap
)) ABH) (by kernel_rfl) fun f fn h=> .inl (A5v f fn h)
end TT
