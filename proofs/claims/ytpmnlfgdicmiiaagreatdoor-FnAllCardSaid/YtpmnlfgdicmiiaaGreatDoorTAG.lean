import Derived.Test.YtpmnlfgdicmiiaaGreatDoorTKK
import Derived.Test.YtpmnlfgdicmiiaaGreatDoorTD25
import Derived.Test.YtpmnlfgdicmiiaaGreatDoorTE
import Derived.Test.YtpmnlfgdicmiiaaGreatDoorProg
import Derived.KernelRfl
import Derived.Test.YtpmnlfgdicmiiaaGreatDoorTFnAllLib
import Derived.Test.YtpmnlfgdicmiiaaGreatDoorTHX4
namespace TT
open Go Go.Proofs
set_option maxRecDepth 100000
set_option linter.unusedSimpArgs false
set_option linter.unusedVariables false
theorem iC : Cd Tryz.prog 4 Pr=true:=by kernel_rfl
theorem mO : Cd Tryz.prog 15 RJ=true:=by kernel_rfl
theorem pZ : Cd Tryz.prog 27 TJ=true:=by kernel_rfl
theorem Zk : Cd Tryz.prog 28 Jy=true:=by kernel_rfl
theorem eu : Cd Tryz.prog 29 NV=true:=by kernel_rfl
theorem ew : Cd Tryz.prog 37 Nc=true:=by kernel_rfl
theorem Zl : Cd Tryz.prog 38 KB=true:=by kernel_rfl
theorem ez : Cd Tryz.prog 46 NZ=true:=by kernel_rfl
theorem f8 : Cd Tryz.prog 59 NX=true:=by kernel_rfl
theorem iD : Cd Tryz.prog 60 Pt=true:=by kernel_rfl
theorem iE : Cd Tryz.prog 61 Pu=true:=by kernel_rfl
theorem VR : Cd Tryz.prog 62 Gd=true:=by kernel_rfl
theorem W5 : Cd Tryz.prog 63 HW=true:=by kernel_rfl
theorem W6 : Cd Tryz.prog 64 HR=true:=by kernel_rfl
theorem iF : Cd Tryz.prog 80 Ps=true:=by kernel_rfl
theorem f9 : Cd Tryz.prog 81 NW=true:=by kernel_rfl
theorem Zm : Cd Tryz.prog 82 K1=true:=by kernel_rfl
theorem sA : Cd Tryz.prog 84 Vh=true:=by kernel_rfl
theorem fA : Cd Tryz.prog 85 Nk=true:=by kernel_rfl
theorem mP : Cd Tryz.prog 87 RM=true:=by kernel_rfl
theorem iG : Cd Tryz.prog 89 Px=true:=by kernel_rfl
theorem bN : Cd Tryz.prog 90 Lc=true:=by kernel_rfl
theorem Yy : Cd Tryz.prog 94 J4=true:=by kernel_rfl
theorem W7 : Cd Tryz.prog 95 Hf=true:=by kernel_rfl
theorem fB : Cd Tryz.prog 103 Nh=true:=by kernel_rfl
theorem fC : Cd Tryz.prog 104 Ni=true:=by kernel_rfl
theorem bO : Cd Tryz.prog 107 Lk=true:=by kernel_rfl
theorem fD : Cd Tryz.prog 114 Np=true:=by kernel_rfl
theorem fE : Cd Tryz.prog 119 Na=true:=by kernel_rfl
theorem fF : Cd Tryz.prog 121 Nb=true:=by kernel_rfl
theorem iH : Cd Tryz.prog 122 Pv=true:=by kernel_rfl
theorem bP : Cd Tryz.prog 123 MD=true:=by kernel_rfl
theorem QI : Cd Tryz.prog 125 DQ=true:=by kernel_rfl
theorem bQ : Cd Tryz.prog 126 MC=true:=by kernel_rfl
theorem QJ : Cd Tryz.prog 127 BX=true:=by kernel_rfl
theorem Yz : Cd Tryz.prog 128 J8=true:=by kernel_rfl
theorem QK : Cd Tryz.prog 129 DR=true:=by kernel_rfl
theorem iI : Cd Tryz.prog 130 Pw=true:=by kernel_rfl
theorem Tg : Cd Tryz.prog 131 FZ=true:=by kernel_rfl
theorem UC : Cd Tryz.prog 132 Ft=true:=by kernel_rfl
theorem W8 : Cd Tryz.prog 133 HZ=true:=by kernel_rfl
theorem T0 : Cd Tryz.prog 135 Ej=true:=by kernel_rfl
theorem UD : Cd Tryz.prog 136 Fu=true:=by kernel_rfl
theorem UE : Cd Tryz.prog 137 Fv=true:=by kernel_rfl
theorem R8 : Cd Tryz.prog 138 Dp=true:=by kernel_rfl
theorem fG : Cd Tryz.prog 145 NY=true:=by kernel_rfl
theorem mQ : Cd Tryz.prog 146 RL=true:=by kernel_rfl
theorem W9 : Cd Tryz.prog 147 Dx=true:=by kernel_rfl
theorem fH : Cd Tryz.prog 149 Nd=true:=by kernel_rfl
theorem VS : Cd Tryz.prog 150 Db=true:=by kernel_rfl
theorem VT : Cd Tryz.prog 151 Dc=true:=by kernel_rfl
theorem Xf : Cd Tryz.prog 152 IK=true:=by kernel_rfl
theorem Zn : Cd Tryz.prog 154 K9=true:=by kernel_rfl
theorem bR : Cd Tryz.prog 157 Lz=true:=by kernel_rfl
theorem fI : Cd Tryz.prog 158 Nq=true:=by kernel_rfl
theorem iJ : Cd Tryz.prog 159 Py=true:=by kernel_rfl
theorem bS : Cd Tryz.prog 162 MF=true:=by kernel_rfl
theorem fJ : Cd Tryz.prog 163 Nz=true:=by kernel_rfl
theorem iK : Cd Tryz.prog 164 Q9=true:=by kernel_rfl
theorem iL : Cd Tryz.prog 169 Q5=true:=by kernel_rfl
theorem bT : Cd Tryz.prog 171 Lt=true:=by kernel_rfl
theorem fK : Cd Tryz.prog 172 Nj=true:=by kernel_rfl
theorem fL : Cd Tryz.prog 173 Nl=true:=by kernel_rfl
theorem QL : Cd Tryz.prog 177 DS=true:=by kernel_rfl
theorem Zo : Cd Tryz.prog 179 KD=true:=by kernel_rfl
theorem fM : Cd Tryz.prog 180 O3=true:=by kernel_rfl
theorem fN : Cd Tryz.prog 181 Nm=true:=by kernel_rfl
theorem bU : Cd Tryz.prog 182 Lw=true:=by kernel_rfl
theorem fO : Cd Tryz.prog 183 Nn=true:=by kernel_rfl
theorem SC : Cd Tryz.prog 185 ET=true:=by kernel_rfl
theorem SD : Cd Tryz.prog 186 CA=true:=by kernel_rfl
theorem SE : Cd Tryz.prog 187 EU=true:=by kernel_rfl
theorem iM : Cd Tryz.prog 188 Q1=true:=by kernel_rfl
theorem WA : Cd Tryz.prog 189 Ha=true:=by kernel_rfl
theorem Oi : Cd Tryz.prog 194 Cw=true:=by kernel_rfl
theorem Zp : Cd Tryz.prog 195 KA=true:=by kernel_rfl
theorem Xg : Cd Tryz.prog 196 IM=true:=by kernel_rfl
theorem fP : Cd Tryz.prog 198 Nf=true:=by kernel_rfl
theorem iN : Cd Tryz.prog 199 Q0=true:=by kernel_rfl
theorem fQ : Cd Tryz.prog 200 Ng=true:=by kernel_rfl
theorem iO : Cd Tryz.prog 201 Pz=true:=by kernel_rfl
theorem Z0 : Cd Tryz.prog 203 J7=true:=by kernel_rfl
theorem iP : Cd Tryz.prog 206 Q6=true:=by kernel_rfl
theorem fR : Cd Tryz.prog 208 O4=true:=by kernel_rfl
theorem bV : Cd Tryz.prog 209 MQ=true:=by kernel_rfl
theorem fS : Cd Tryz.prog 210 O5=true:=by kernel_rfl
theorem bW : Cd Tryz.prog 211 MT=true:=by kernel_rfl
theorem fT : Cd Tryz.prog 215 Nr=true:=by kernel_rfl
theorem iQ : Cd Tryz.prog 216 Q2=true:=by kernel_rfl
theorem iR : Cd Tryz.prog 217 Q3=true:=by kernel_rfl
theorem bX : Cd Tryz.prog 218 M4=true:=by kernel_rfl
theorem bY : Cd Tryz.prog 219 M7=true:=by kernel_rfl
theorem Xh : Cd Tryz.prog 220 IJ=true:=by kernel_rfl
theorem Zq : Cd Tryz.prog 221 KF=true:=by kernel_rfl
theorem SG : Cd Tryz.prog 223 EV=true:=by kernel_rfl
theorem fU : Cd Tryz.prog 224 Ns=true:=by kernel_rfl
theorem bZ : Cd Tryz.prog 225 M8=true:=by kernel_rfl
theorem fV : Cd Tryz.prog 226 Nt=true:=by kernel_rfl
theorem ba : Cd Tryz.prog 227 MB=true:=by kernel_rfl
theorem T3 : Cd Tryz.prog 229 Ek=true:=by kernel_rfl
theorem bc : Cd Tryz.prog 230 ME=true:=by kernel_rfl
theorem WB : Cd Tryz.prog 231 Hc=true:=by kernel_rfl
theorem Ju : Cd Tryz.prog 236 Bi=true:=by kernel_rfl
theorem Xi : Cd Tryz.prog 245 IL=true:=by kernel_rfl
theorem Zr : Cd Tryz.prog 246 KH=true:=by kernel_rfl
theorem fW : Cd Tryz.prog 248 No=true:=by kernel_rfl
theorem iS : Cd Tryz.prog 252 Q8=true:=by kernel_rfl
theorem bd : Cd Tryz.prog 253 MI=true:=by kernel_rfl
theorem Zs : Cd Tryz.prog 254 KE=true:=by kernel_rfl
theorem fX : Cd Tryz.prog 255 O0=true:=by kernel_rfl
theorem iT : Cd Tryz.prog 256 QA=true:=by kernel_rfl
theorem be : Cd Tryz.prog 257 MJ=true:=by kernel_rfl
theorem Zt : Cd Tryz.prog 258 KG=true:=by kernel_rfl
theorem fY : Cd Tryz.prog 259 O7=true:=by kernel_rfl
theorem fZ : Cd Tryz.prog 260 Nu=true:=by kernel_rfl
theorem fb : Cd Tryz.prog 261 Nv=true:=by kernel_rfl
theorem VU : Cd Tryz.prog 262 Ge=true:=by kernel_rfl
theorem fc : Cd Tryz.prog 263 Nw=true:=by kernel_rfl
theorem fe : Cd Tryz.prog 264 Nx=true:=by kernel_rfl
theorem VV : Cd Tryz.prog 265 Gf=true:=by kernel_rfl
theorem iU : Cd Tryz.prog 268 Q7=true:=by kernel_rfl
theorem ff : Cd Tryz.prog 269 Ny=true:=by kernel_rfl
theorem iV : Cd Tryz.prog 275 Q4=true:=by kernel_rfl
theorem iW : Cd Tryz.prog 285 QB=true:=by kernel_rfl
theorem fg : Cd Tryz.prog 286 O6=true:=by kernel_rfl
theorem VW : Cd Tryz.prog 287 Gg=true:=by kernel_rfl
theorem bf : Cd Tryz.prog 289 MK=true:=by kernel_rfl
theorem LB : Cd Tryz.prog 290 C5=true:=by kernel_rfl
theorem PR : Cd Tryz.prog 293 DB=true:=by kernel_rfl
theorem bg : Cd Tryz.prog 294 MU=true:=by kernel_rfl
theorem LC : Cd Tryz.prog 302 C6=true:=by kernel_rfl
theorem RD : Cd Tryz.prog 305 E7=true:=by kernel_rfl
theorem A0I (f:FuncId) (fn:F) (h:FTT f=some fn):Cd Tryz.prog f fn=true:=by
 unfold FTT at h
 split at h<;>cases h
 ·exact iC
 ·exact mO
 ·exact pZ
 ·exact Zk
 ·exact eu
 ·exact ew
 ·exact Zl
 ·exact ez
 ·exact f8
 ·exact iD
 ·exact iE
 ·exact VR
 ·exact W5
 ·exact W6
 ·exact iF
 ·exact f9
 ·exact Zm
 ·exact sA
 ·exact fA
 ·exact mP
 ·exact iG
 ·exact bN
 ·exact Yy
 ·exact W7
 ·exact fB
 ·exact fC
 ·exact bO
 ·exact fD
 ·exact fE
 ·exact fF
 ·exact iH
 ·exact bP
 ·exact QI
 ·exact bQ
 ·exact QJ
 ·exact Yz
 ·exact QK
 ·exact iI
 ·exact Tg
 ·exact UC
 ·exact W8
 ·exact T0
 ·exact UD
 ·exact UE
 ·exact R8
 ·exact fG
 ·exact mQ
 ·exact W9
 ·exact fH
 ·exact VS
 ·exact VT
 ·exact Xf
 ·exact Zn
 ·exact bR
 ·exact fI
 ·exact iJ
 ·exact bS
 ·exact fJ
 ·exact iK
 ·exact iL
 ·exact bT
 ·exact fK
 ·exact fL
 ·exact QL
 ·exact Zo
 ·exact fM
 ·exact fN
 ·exact bU
 ·exact fO
 ·exact SC
 ·exact SD
 ·exact SE
 ·exact iM
 ·exact WA
 ·exact Oi
 ·exact Zp
 ·exact Xg
 ·exact fP
 ·exact iN
 ·exact fQ
 ·exact iO
 ·exact Z0
 ·exact iP
 ·exact fR
 ·exact bV
 ·exact fS
 ·exact bW
 ·exact fT
 ·exact iQ
 ·exact iR
 ·exact bX
 ·exact bY
 ·exact Xh
 ·exact Zq
 ·exact SG
 ·exact fU
 ·exact bZ
 ·exact fV
 ·exact ba
 ·exact T3
 ·exact bc
 ·exact WB
 ·exact Ju
 ·exact Xi
 ·exact Zr
 ·exact fW
 ·exact iS
 ·exact bd
 ·exact Zs
 ·exact fX
 ·exact iT
 ·exact be
 ·exact Zt
 ·exact fY
 ·exact fZ
 ·exact fb
 ·exact VU
 ·exact fc
 ·exact fe
 ·exact VV
 ·exact iU
 ·exact ff
 ·exact iV
 ·exact iW
 ·exact fg
 ·exact VW
 ·exact bf
 ·exact LB
 ·exact PR
 ·exact bg
 ·exact LC
 ·exact RD
theorem A5d : Dd GG Tryz.prog (dn ⟨FTT,[],[]⟩):=jF qP (by kernel_rfl) fun f fn h=> .inl (A0I f fn h)
theorem VX (q:Option Addr) (cap:Nat):dn ⟨FTT,[],[]⟩ HN [.t (.v (.slice q 0 cap))]=some ⟨[.t (.sl true [])],[]⟩:=by
 show dn ⟨FTT,[],[]⟩ _ _=_
 rw[A7 ⟨FTT,[],[]⟩ (fn:=Dx) rfl rfl (Nat.le_of_ble_eq_true rfl)]
 cases q<;>simp only[SS ⟨FTT,[],[]⟩,S3,Dx,Option.isNone,show room 0 8=some ()from by unfold room;rw[if_pos ⟨by simp,by decide⟩],Vf,Nat.reduceAdd,Nat.reduceSub,Nat.reduceMul,Nat.reduceLeDiff,Nat.reduceLT,Nat.reduceEqDiff,Nat.reduceBEq,↓reduceIte,reduceCtorEq]<;>rfl
theorem UF (q:Option Addr) (cap:Nat):dn ⟨FTT,[],[]⟩ Ga [.t (.v (.slice q 0 cap))]=some ⟨[.t (.sl true [])],[]⟩:=by
 show dn ⟨FTT,[],[]⟩ _ _=_
 rw[A7 ⟨FTT,[],[]⟩ (fn:=Db) rfl rfl (Nat.le_of_ble_eq_true rfl)]
 cases q<;>simp only[SS ⟨FTT,[],[]⟩,S3,Db,Option.isNone,show room 0 32=some ()from by unfold room;rw[if_pos ⟨by simp,by decide⟩],Vf,Nat.reduceAdd,Nat.reduceSub,Nat.reduceMul,Nat.reduceLeDiff,Nat.reduceLT,Nat.reduceEqDiff,Nat.reduceBEq,↓reduceIte,reduceCtorEq]<;>rfl
theorem UG (q:Option Addr) (cap:Nat):dn ⟨FTT,[],[]⟩ GZ [.t (.v (.slice q 0 cap))]=some ⟨[.t (.sl true [])],[]⟩:=by
 show dn ⟨FTT,[],[]⟩ _ _=_
 rw[A7 ⟨FTT,[],[]⟩ (fn:=Dc) rfl rfl (Nat.le_of_ble_eq_true rfl)]
 cases q<;>simp only[SS ⟨FTT,[],[]⟩,S3,Dc,Option.isNone,show room 0 64=some ()from by unfold room;rw[if_pos ⟨by simp,by decide⟩],Vf,Nat.reduceAdd,Nat.reduceSub,Nat.reduceMul,Nat.reduceLeDiff,Nat.reduceLT,Nat.reduceEqDiff,Nat.reduceBEq,↓reduceIte,reduceCtorEq]<;>rfl
theorem soundA : Dd GG Tryz.prog (dn AF):=jF (jG (kF A5d (fun f hf q cap=>by
 simp only[AF,List.contains_cons,List.contains_nil,Bool.or_false,Bool.or_eq_true,beq_iff_eq]at hf
 rcases hf with rfl|rfl|rfl
 ·exact VX q cap
 ·exact UF q cap
 ·exact UG q cap
)) A5c) (by kernel_rfl) fun f fn h=> .inl (A0I f fn h)
end TT
