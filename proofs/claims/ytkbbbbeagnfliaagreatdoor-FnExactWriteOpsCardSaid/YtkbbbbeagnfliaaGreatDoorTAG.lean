import Derived.Test.YtkbbbbeagnfliaaGreatDoorTKK
import Derived.Test.YtkbbbbeagnfliaaGreatDoorTD25
import Derived.Test.YtkbbbbeagnfliaaGreatDoorTE
import Derived.Test.YtkbbbbeagnfliaaGreatDoorProg
import Derived.KernelRfl
import Derived.Test.YtkbbbbeagnfliaaGreatDoorTFnExactWriteOpsLib
import Derived.Test.YtkbbbbeagnfliaaGreatDoorTHX4
namespace TT
open Go Go.Proofs
set_option maxRecDepth 100000
set_option linter.unusedSimpArgs false
set_option linter.unusedVariables false
theorem Vw : Bo Tryz.prog 3 FJ=true:=by kernel_rfl
theorem qP : Bo Tryz.prog 4 Sd=true:=by kernel_rfl
theorem gM : Bo Tryz.prog 5 KZ=true:=by kernel_rfl
theorem qQ : Bo Tryz.prog 6 Se=true:=by kernel_rfl
theorem gN : Bo Tryz.prog 7 Ka=true:=by kernel_rfl
theorem qR : Bo Tryz.prog 8 Sg=true:=by kernel_rfl
theorem vB : Bo Tryz.prog 9 UO=true:=by kernel_rfl
theorem vC : Bo Tryz.prog 10 UQ=true:=by kernel_rfl
theorem jY : Bo Tryz.prog 11 N6=true:=by kernel_rfl
theorem jZ : Bo Tryz.prog 12 N7=true:=by kernel_rfl
theorem ng : Bo Tryz.prog 13 QA=true:=by kernel_rfl
theorem ja : Bo Tryz.prog 14 N8=true:=by kernel_rfl
theorem vD : Bo Tryz.prog 15 UP=true:=by kernel_rfl
theorem vE : Bo Tryz.prog 16 UR=true:=by kernel_rfl
theorem jb : Bo Tryz.prog 17 N9=true:=by kernel_rfl
theorem fC : Bo Tryz.prog 18 JT=true:=by kernel_rfl
theorem nh : Bo Tryz.prog 19 QB=true:=by kernel_rfl
theorem jc : Bo Tryz.prog 20 NC=true:=by kernel_rfl
theorem vF : Bo Tryz.prog 21 US=true:=by kernel_rfl
theorem qS : Bo Tryz.prog 22 Sh=true:=by kernel_rfl
theorem jd : Bo Tryz.prog 23 ND=true:=by kernel_rfl
theorem je : Bo Tryz.prog 24 NE=true:=by kernel_rfl
theorem vG : Bo Tryz.prog 25 UT=true:=by kernel_rfl
theorem qT : Bo Tryz.prog 26 Sj=true:=by kernel_rfl
theorem ni : Bo Tryz.prog 27 QE=true:=by kernel_rfl
theorem jf : Bo Tryz.prog 28 NN=true:=by kernel_rfl
theorem nj : Bo Tryz.prog 29 QC=true:=by kernel_rfl
theorem nk : Bo Tryz.prog 30 QD=true:=by kernel_rfl
theorem gO : Bo Tryz.prog 31 Kd=true:=by kernel_rfl
theorem qU : Bo Tryz.prog 32 Sk=true:=by kernel_rfl
theorem gP : Bo Tryz.prog 33 Ke=true:=by kernel_rfl
theorem jg : Bo Tryz.prog 34 NV=true:=by kernel_rfl
theorem gQ : Bo Tryz.prog 35 Kf=true:=by kernel_rfl
theorem qV : Bo Tryz.prog 36 Sl=true:=by kernel_rfl
theorem ji : Bo Tryz.prog 37 NY=true:=by kernel_rfl
theorem jk : Bo Tryz.prog 38 NZ=true:=by kernel_rfl
theorem jl : Bo Tryz.prog 39 Na=true:=by kernel_rfl
theorem jm : Bo Tryz.prog 40 Nb=true:=by kernel_rfl
theorem qW : Bo Tryz.prog 41 Si=true:=by kernel_rfl
theorem jn : Bo Tryz.prog 42 NH=true:=by kernel_rfl
theorem jo : Bo Tryz.prog 43 NK=true:=by kernel_rfl
theorem qX : Bo Tryz.prog 44 Sm=true:=by kernel_rfl
theorem gR : Bo Tryz.prog 45 Kg=true:=by kernel_rfl
theorem TA : Bo Tryz.prog 46 Bw=true:=by kernel_rfl
theorem nl : Bo Tryz.prog 47 Qd=true:=by kernel_rfl
theorem no : Bo Tryz.prog 48 Qm=true:=by kernel_rfl
theorem gS : Bo Tryz.prog 49 Kh=true:=by kernel_rfl
theorem A0M : Bo Tryz.prog 50 ZV=true:=by kernel_rfl
theorem np : Bo Tryz.prog 51 QF=true:=by kernel_rfl
theorem fD : Bo Tryz.prog 52 JU=true:=by kernel_rfl
theorem gT : Bo Tryz.prog 53 Ki=true:=by kernel_rfl
theorem gU : Bo Tryz.prog 54 Kj=true:=by kernel_rfl
theorem jp : Bo Tryz.prog 55 Nc=true:=by kernel_rfl
theorem ZH : Bo Tryz.prog 56 Dv=true:=by kernel_rfl
theorem d8 : Bo Tryz.prog 57 IY=true:=by kernel_rfl
theorem Vx : Bo Tryz.prog 58 FL=true:=by kernel_rfl
theorem aH : Bo Tryz.prog 59 Hy=true:=by kernel_rfl
theorem aI : Bo Tryz.prog 62 EG=true:=by kernel_rfl
theorem gV : Bo Tryz.prog 63 Kk=true:=by kernel_rfl
theorem gW : Bo Tryz.prog 64 Kl=true:=by kernel_rfl
theorem jq : Bo Tryz.prog 65 Nd=true:=by kernel_rfl
theorem nq : Bo Tryz.prog 66 QG=true:=by kernel_rfl
theorem jr : Bo Tryz.prog 68 Nh=true:=by kernel_rfl
theorem gX : Bo Tryz.prog 69 Km=true:=by kernel_rfl
theorem jt : Bo Tryz.prog 70 Ng=true:=by kernel_rfl
theorem qY : Bo Tryz.prog 71 Sp=true:=by kernel_rfl
theorem ju : Bo Tryz.prog 72 Ni=true:=by kernel_rfl
theorem jv : Bo Tryz.prog 73 Nj=true:=by kernel_rfl
theorem jw : Bo Tryz.prog 74 Nk=true:=by kernel_rfl
theorem ns : Bo Tryz.prog 75 QH=true:=by kernel_rfl
theorem nu : Bo Tryz.prog 76 QI=true:=by kernel_rfl
theorem fE : Bo Tryz.prog 77 JV=true:=by kernel_rfl
theorem nv : Bo Tryz.prog 78 QL=true:=by kernel_rfl
theorem jx : Bo Tryz.prog 79 Nq=true:=by kernel_rfl
theorem nw : Bo Tryz.prog 80 QN=true:=by kernel_rfl
theorem nx : Bo Tryz.prog 81 QM=true:=by kernel_rfl
theorem qZ : Bo Tryz.prog 82 Sq=true:=by kernel_rfl
theorem fF : Bo Tryz.prog 83 JY=true:=by kernel_rfl
theorem qa : Bo Tryz.prog 84 Ss=true:=by kernel_rfl
theorem jy : Bo Tryz.prog 85 Nr=true:=by kernel_rfl
theorem ny : Bo Tryz.prog 86 QO=true:=by kernel_rfl
theorem nz : Bo Tryz.prog 87 QP=true:=by kernel_rfl
theorem qb : Bo Tryz.prog 88 Su=true:=by kernel_rfl
theorem jz : Bo Tryz.prog 89 Nn=true:=by kernel_rfl
theorem o6 : Bo Tryz.prog 90 QJ=true:=by kernel_rfl
theorem o7 : Bo Tryz.prog 91 QK=true:=by kernel_rfl
theorem o8 : Bo Tryz.prog 92 QQ=true:=by kernel_rfl
theorem qc : Bo Tryz.prog 93 Sv=true:=by kernel_rfl
theorem d9 : Bo Tryz.prog 94 Ib=true:=by kernel_rfl
theorem VL : Bo Tryz.prog 95 Ca=true:=by kernel_rfl
theorem qd : Bo Tryz.prog 96 Sx=true:=by kernel_rfl
theorem qe : Bo Tryz.prog 97 Sy=true:=by kernel_rfl
theorem k8 : Bo Tryz.prog 98 Nx=true:=by kernel_rfl
theorem dA : Bo Tryz.prog 99 IZ=true:=by kernel_rfl
theorem ZI : Bo Tryz.prog 100 HG=true:=by kernel_rfl
theorem fG : Bo Tryz.prog 103 JZ=true:=by kernel_rfl
theorem RQ : Bo Tryz.prog 104 DL=true:=by kernel_rfl
theorem gY : Bo Tryz.prog 105 Kn=true:=by kernel_rfl
theorem fH : Bo Tryz.prog 108 Ja=true:=by kernel_rfl
theorem o9 : Bo Tryz.prog 109 QR=true:=by kernel_rfl
theorem oB : Bo Tryz.prog 110 QS=true:=by kernel_rfl
theorem oC : Bo Tryz.prog 111 QT=true:=by kernel_rfl
theorem TB : Bo Tryz.prog 116 Dn=true:=by kernel_rfl
theorem kA : Bo Tryz.prog 119 Ny=true:=by kernel_rfl
theorem oD : Bo Tryz.prog 120 QU=true:=by kernel_rfl
theorem oE : Bo Tryz.prog 121 QV=true:=by kernel_rfl
theorem oG : Bo Tryz.prog 122 QW=true:=by kernel_rfl
theorem kB : Bo Tryz.prog 123 Nz=true:=by kernel_rfl
theorem fI : Bo Tryz.prog 124 Jb=true:=by kernel_rfl
theorem oH : Bo Tryz.prog 125 QY=true:=by kernel_rfl
theorem kC : Bo Tryz.prog 126 O9=true:=by kernel_rfl
theorem oI : Bo Tryz.prog 127 QZ=true:=by kernel_rfl
theorem kD : Bo Tryz.prog 128 OC=true:=by kernel_rfl
theorem qf : Bo Tryz.prog 129 Sw=true:=by kernel_rfl
theorem oJ : Bo Tryz.prog 130 Qa=true:=by kernel_rfl
theorem oK : Bo Tryz.prog 131 QX=true:=by kernel_rfl
theorem kE : Bo Tryz.prog 132 O4=true:=by kernel_rfl
theorem TC : Bo Tryz.prog 133 Dm=true:=by kernel_rfl
theorem gZ : Bo Tryz.prog 134 Kr=true:=by kernel_rfl
theorem oN : Bo Tryz.prog 135 Qv=true:=by kernel_rfl
theorem oO : Bo Tryz.prog 136 Qb=true:=by kernel_rfl
theorem kF : Bo Tryz.prog 137 OF=true:=by kernel_rfl
theorem oP : Bo Tryz.prog 138 Qc=true:=by kernel_rfl
theorem Ml : Bo Tryz.prog 139 CU=true:=by kernel_rfl
theorem ZJ : Bo Tryz.prog 142 Dw=true:=by kernel_rfl
theorem KY : Bo Tryz.prog 143 CA=true:=by kernel_rfl
theorem dB : Bo Tryz.prog 152 Ia=true:=by kernel_rfl
theorem oQ : Bo Tryz.prog 156 Qe=true:=by kernel_rfl
theorem kG : Bo Tryz.prog 157 OI=true:=by kernel_rfl
theorem kH : Bo Tryz.prog 158 OL=true:=by kernel_rfl
theorem ga : Bo Tryz.prog 159 Ks=true:=by kernel_rfl
theorem VM : Bo Tryz.prog 162 Eu=true:=by kernel_rfl
theorem oR : Bo Tryz.prog 164 Qf=true:=by kernel_rfl
theorem kI : Bo Tryz.prog 165 OM=true:=by kernel_rfl
theorem kJ : Bo Tryz.prog 166 ON=true:=by kernel_rfl
theorem oS : Bo Tryz.prog 167 Qg=true:=by kernel_rfl
theorem gb : Bo Tryz.prog 168 Kq=true:=by kernel_rfl
theorem oT : Bo Tryz.prog 169 Qj=true:=by kernel_rfl
theorem qg : Bo Tryz.prog 170 Sz=true:=by kernel_rfl
theorem kK : Bo Tryz.prog 171 OT=true:=by kernel_rfl
theorem gc : Bo Tryz.prog 172 Kp=true:=by kernel_rfl
theorem oU : Bo Tryz.prog 173 Qi=true:=by kernel_rfl
theorem qh : Bo Tryz.prog 174 T0=true:=by kernel_rfl
theorem kL : Bo Tryz.prog 175 OU=true:=by kernel_rfl
theorem kM : Bo Tryz.prog 176 OQ=true:=by kernel_rfl
theorem oV : Bo Tryz.prog 177 Qh=true:=by kernel_rfl
theorem VN : Bo Tryz.prog 178 Et=true:=by kernel_rfl
theorem oW : Bo Tryz.prog 179 Qk=true:=by kernel_rfl
theorem kN : Bo Tryz.prog 180 OV=true:=by kernel_rfl
theorem oX : Bo Tryz.prog 181 Ql=true:=by kernel_rfl
theorem kO : Bo Tryz.prog 182 OY=true:=by kernel_rfl
theorem oY : Bo Tryz.prog 191 Qn=true:=by kernel_rfl
theorem oZ : Bo Tryz.prog 192 Qo=true:=by kernel_rfl
theorem oa : Bo Tryz.prog 193 Qp=true:=by kernel_rfl
theorem ZK : Bo Tryz.prog 194 HH=true:=by kernel_rfl
theorem kP : Bo Tryz.prog 201 OZ=true:=by kernel_rfl
theorem oc : Bo Tryz.prog 202 Qq=true:=by kernel_rfl
theorem od : Bo Tryz.prog 203 Qr=true:=by kernel_rfl
theorem oe : Bo Tryz.prog 204 Qs=true:=by kernel_rfl
theorem qi : Bo Tryz.prog 205 T3=true:=by kernel_rfl
theorem og : Bo Tryz.prog 206 Qt=true:=by kernel_rfl
theorem ZL : Bo Tryz.prog 216 HJ=true:=by kernel_rfl
theorem kQ : Bo Tryz.prog 218 Oa=true:=by kernel_rfl
theorem oh : Bo Tryz.prog 224 Qu=true:=by kernel_rfl
theorem SC : Bo Tryz.prog 225 Dd=true:=by kernel_rfl
theorem kR : Bo Tryz.prog 226 Oc=true:=by kernel_rfl
theorem Mm : Bo Tryz.prog 233 CV=true:=by kernel_rfl
theorem UL : Bo Tryz.prog 237 EY=true:=by kernel_rfl
theorem A6e (f:FuncId) (fn:F) (h:FTT f=some fn):Bo Tryz.prog f fn=true:=by
 unfold FTT at h
 split at h<;>cases h
 ·exact Vw
 ·exact qP
 ·exact gM
 ·exact qQ
 ·exact gN
 ·exact qR
 ·exact vB
 ·exact vC
 ·exact jY
 ·exact jZ
 ·exact ng
 ·exact ja
 ·exact vD
 ·exact vE
 ·exact jb
 ·exact fC
 ·exact nh
 ·exact jc
 ·exact vF
 ·exact qS
 ·exact jd
 ·exact je
 ·exact vG
 ·exact qT
 ·exact ni
 ·exact jf
 ·exact nj
 ·exact nk
 ·exact gO
 ·exact qU
 ·exact gP
 ·exact jg
 ·exact gQ
 ·exact qV
 ·exact ji
 ·exact jk
 ·exact jl
 ·exact jm
 ·exact qW
 ·exact jn
 ·exact jo
 ·exact qX
 ·exact gR
 ·exact TA
 ·exact nl
 ·exact no
 ·exact gS
 ·exact A0M
 ·exact np
 ·exact fD
 ·exact gT
 ·exact gU
 ·exact jp
 ·exact ZH
 ·exact d8
 ·exact Vx
 ·exact aH
 ·exact aI
 ·exact gV
 ·exact gW
 ·exact jq
 ·exact nq
 ·exact jr
 ·exact gX
 ·exact jt
 ·exact qY
 ·exact ju
 ·exact jv
 ·exact jw
 ·exact ns
 ·exact nu
 ·exact fE
 ·exact nv
 ·exact jx
 ·exact nw
 ·exact nx
 ·exact qZ
 ·exact fF
 ·exact qa
 ·exact jy
 ·exact ny
 ·exact nz
 ·exact qb
 ·exact jz
 ·exact o6
 ·exact o7
 ·exact o8
 ·exact qc
 ·exact d9
 ·exact VL
 ·exact qd
 ·exact qe
 ·exact k8
 ·exact dA
 ·exact ZI
 ·exact fG
 ·exact RQ
 ·exact gY
 ·exact fH
 ·exact o9
 ·exact oB
 ·exact oC
 ·exact TB
 ·exact kA
 ·exact oD
 ·exact oE
 ·exact oG
 ·exact kB
 ·exact fI
 ·exact oH
 ·exact kC
 ·exact oI
 ·exact kD
 ·exact qf
 ·exact oJ
 ·exact oK
 ·exact kE
 ·exact TC
 ·exact gZ
 ·exact oN
 ·exact oO
 ·exact kF
 ·exact oP
 ·exact Ml
 ·exact ZJ
 ·exact KY
 ·exact dB
 ·exact oQ
 ·exact kG
 ·exact kH
 ·exact ga
 ·exact VM
 ·exact oR
 ·exact kI
 ·exact kJ
 ·exact oS
 ·exact gb
 ·exact oT
 ·exact qg
 ·exact kK
 ·exact gc
 ·exact oU
 ·exact qh
 ·exact kL
 ·exact kM
 ·exact oV
 ·exact VN
 ·exact oW
 ·exact kN
 ·exact oX
 ·exact kO
 ·exact oY
 ·exact oZ
 ·exact oa
 ·exact ZK
 ·exact kP
 ·exact oc
 ·exact od
 ·exact oe
 ·exact qi
 ·exact og
 ·exact ZL
 ·exact kQ
 ·exact oh
 ·exact SC
 ·exact kR
 ·exact Mm
 ·exact UL
theorem ACD : Dx GG Tryz.prog (dn ⟨FTT,[],[]⟩):=rU yd (by kernel_rfl) fun f fn h=> .inl (A6e f fn h)
theorem XT (q:Option Addr) (cap:Nat):dn ⟨FTT,[],[]⟩ FH [.t (.v (.slice q 0 cap))]=some ⟨[.t (.sl true [])],[]⟩:=by
 show dn ⟨FTT,[],[]⟩ _ _=_
 rw[A5 ⟨FTT,[],[]⟩ (fn:=Dv) rfl rfl (Nat.le_of_ble_eq_true rfl)]
 cases q<;>simp only[SS ⟨FTT,[],[]⟩,S3,Dv,Option.isNone,show room 0 32=some ()from by unfold room;rw[if_pos ⟨by simp,by decide⟩],fV,Nat.reduceAdd,Nat.reduceSub,Nat.reduceMul,Nat.reduceLeDiff,Nat.reduceLT,Nat.reduceEqDiff,Nat.reduceBEq,↓reduceIte,reduceCtorEq]<;>rfl
theorem XU (q:Option Addr) (cap:Nat):dn ⟨FTT,[],[]⟩ HF [.t (.v (.slice q 0 cap))]=some ⟨[.t (.sl true [])],[]⟩:=by
 show dn ⟨FTT,[],[]⟩ _ _=_
 rw[A5 ⟨FTT,[],[]⟩ (fn:=Dw) rfl rfl (Nat.le_of_ble_eq_true rfl)]
 cases q<;>simp only[SS ⟨FTT,[],[]⟩,S3,Dw,Option.isNone,show room 0 64=some ()from by unfold room;rw[if_pos ⟨by simp,by decide⟩],fV,Nat.reduceAdd,Nat.reduceSub,Nat.reduceMul,Nat.reduceLeDiff,Nat.reduceLT,Nat.reduceEqDiff,Nat.reduceBEq,↓reduceIte,reduceCtorEq]<;>rfl
theorem soundA : Dx GG Tryz.prog (dn AI):=rU (rV (su ACD (fun f hf q cap=>by
 simp only[AI,List.contains_cons,List.contains_nil,Bool.or_false,Bool.or_eq_true,beq_iff_eq]at hf
 rcases hf with rfl|rfl
 ·exact XT q cap
 ·exact XU q cap
)) ACC) (by kernel_rfl) fun f fn h=> .inl (A6e f fn h)
end TT
