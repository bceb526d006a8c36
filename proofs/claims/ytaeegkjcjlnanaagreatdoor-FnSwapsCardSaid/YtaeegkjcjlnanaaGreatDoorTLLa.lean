import Derived.Test.YtaeegkjcjlnanaaGreatDoorTKK
import Derived.Test.YtaeegkjcjlnanaaGreatDoorTDefs
set_option maxHeartbeats 2000000
set_option linter.unusedVariables false
set_option linter.unusedSimpArgs false
set_option linter.defProp false
set_option maxRecDepth 100000
namespace TT
open Go
open Nat (reduceAdd reduceSub reduceMul reduceLeDiff reduceLT reduceEqDiff)
def Zk (r : Bool) : Am := ⟨[.t (.v (.bool r))], []⟩
def mi : Cx := ⟨1, [0], [.tmp 2]⟩
def QC (r : A2) : Am := ⟨[.box [.sl false (r.xb.map (rK .u8)), .v (.int .i64 r.xi), .v (.int .i64 r.xh)]], []⟩
def VD : Cx := ⟨1, [0], [.tmp 2]⟩
def TE (r : Int × A2) : Am := ⟨[.t (.v (.int .i64 r.1))], [some [[.sl false (r.2.xb.map (rK .u8)), .v (.int .i64 r.2.xi), .v (.int .i64 r.2.xh)]]]⟩
def cM : Cx := ⟨1, [1], [.tmp 2]⟩
def RH (r : Int × A2) : Am := ⟨[.t (.v (.int .i64 r.1))], [some [[.sl false (r.2.xb.map (rK .u8)), .v (.int .i64 r.2.xi), .v (.int .i64 r.2.xh)]]]⟩
def Zl : Cx := ⟨2, [1, 0], [.tmp 4]⟩
def TF (r : Bool × A2) : Am := ⟨[.t (.v (.bool r.1))], [some [[.sl false (r.2.xb.map (rK .u8)), .v (.int .i64 r.2.xi), .v (.int .i64 r.2.xh)]]]⟩
def cN : Cx := ⟨2, [1, 0], [.tmp 4]⟩
def VE (r : ByteArray × A2) : Am := ⟨[.t (.v (.string r.1))], [some [[.sl false (r.2.xb.map (rK .u8)), .v (.int .i64 r.2.xi), .v (.int .i64 r.2.xh)]]]⟩
def gt : Cx := ⟨2, [1, 0], [.tmp 4]⟩
def VF (r : ByteArray × A2) : Am := ⟨[.t (.v (.string r.1))], [some [[.sl false (r.2.xb.map (rK .u8)), .v (.int .i64 r.2.xi), .v (.int .i64 r.2.xh)]]]⟩
def gu : Cx := ⟨1, [1], [.tmp 2]⟩
def TG (r : A1 × A2) : Am := ⟨[.agg [.v (.string r.1.Pre), .v (.string r.1.Uri)]], [some [[.sl false (r.2.xb.map (rK .u8)), .v (.int .i64 r.2.xi), .v (.int .i64 r.2.xh)]]]⟩
def cO : Cx := ⟨1, [1], [.cell 2 2 true]⟩
def Om (r : List A1 × A2) : Am := ⟨[.t (.sl true (r.1.map A1.row))], [some [[.sl false (r.2.xb.map (rK .u8)), .v (.int .i64 r.2.xi), .v (.int .i64 r.2.xh)]]]⟩
def TH : Cx := ⟨1, [1], [.tmp 2]⟩
def VG (r : List A1) : Am := ⟨[.t (.sl true (r.map A1.row))], []⟩
def gv : Cx := ⟨2, [0, 0], [.tmp 4]⟩
def Nk (r : ByteArray × Bool) : Am := ⟨[.t (.v (.string r.1)), .t (.v (.bool r.2))], []⟩
def RI : Cx := ⟨2, [0, 0], [.tmp 4, .tmp 5]⟩
def VH (r : ByteArray × A2) : Am := ⟨[.t (.v (.string r.1))], [some [[.sl false (r.2.xb.map (rK .u8)), .v (.int .i64 r.2.xi), .v (.int .i64 r.2.xh)]]]⟩
def gw : Cx := ⟨1, [1], [.tmp 2]⟩
def TI (r : Bool) : Am := ⟨[.t (.v (.bool r))], []⟩
def cP : Cx := ⟨2, [0, 0], [.tmp 4]⟩
def NF (r : List A0) : Am := ⟨[.t (.sl true (r.map (A0.row true)))], []⟩
def VI : Cx := ⟨1, [0], [.tmp 2]⟩
def On (r : A0) : Am := ⟨[.agg [.v (.int .i64 r.Kind), .v (.string r.Pre), .v (.string r.Local), .v (.string r.Uri), .sl true (r.Decls.map A1.row), .sl true (r.Attrs.map A4.row), .sl true (r.Kids.map (A0.row true)), .v (.string r.Text)]], []⟩
def cQ : Cx := ⟨1, [0], [.cell 2 8 true]⟩
def NG (r : List A0) : Am := ⟨[.t (.sl true (r.map (A0.row true)))], []⟩
def QD : Cx := ⟨1, [0], [.tmp 2]⟩
def Dm (r : A0 × A2 × Int) : Am := ⟨[.agg [.v (.int .i64 r.1.Kind), .v (.string r.1.Pre), .v (.string r.1.Local), .v (.string r.1.Uri), .sl true (r.1.Decls.map A1.row), .sl true (r.1.Attrs.map A4.row), .sl true (r.1.Kids.map (A0.row true)), .v (.string r.1.Text)]], [some [[.sl false (r.2.1.xb.map (rK .u8)), .v (.int .i64 r.2.1.xi), .v (.int .i64 r.2.1.xh)]], some [[.v (.int .i64 r.2.2)]]]⟩
def Fc : Cx := ⟨3, [1, 0, 1], [.cell 6 8 true]⟩
def Jk (r : Int) : Am := ⟨[.t (.v (.int .i64 r))], []⟩
def RJ : Cx := ⟨1, [0], [.tmp 2]⟩
def Xf (r : Bool) : Am := ⟨[.t (.v (.bool r))], []⟩
def jt : Cx := ⟨3, [0, 0, 0], [.tmp 6]⟩
def Fv (r : Int × Int × Bool) : Am := ⟨[.t (.v (.int .i64 r.1)), .t (.v (.int .i64 r.2.1)), .t (.v (.bool r.2.2))], []⟩
def HM : Cx := ⟨2, [0, 0], [.tmp 4, .tmp 5, .tmp 6]⟩
def MI (r : Bool) : Am := ⟨[.t (.v (.bool r))], []⟩
def QT : Cx := ⟨2, [0, 0], [.tmp 4]⟩
def RL (r : Bool) : Am := ⟨[.t (.v (.bool r))], []⟩
def Zm : Cx := ⟨1, [0], [.tmp 2]⟩
def TJ (r : Bool) : Am := ⟨[.t (.v (.bool r))], []⟩
def cR : Cx := ⟨1, [0], [.tmp 2]⟩
def Nl (r : Bool) : Am := ⟨[.t (.v (.bool r))], []⟩
def RM : Cx := ⟨1, [0], [.tmp 2]⟩
def VJ (r : Bool) : Am := ⟨[.t (.v (.bool r))], []⟩
def gy : Cx := ⟨1, [0], [.tmp 2]⟩
def VK (r : Bool) : Am := ⟨[.t (.v (.bool r))], []⟩
def gz : Cx := ⟨1, [0], [.tmp 2]⟩
def TK (r : Bool) : Am := ⟨[.t (.v (.bool r))], []⟩
def cS : Cx := ⟨1, [0], [.tmp 2]⟩
def Nm (r : Bool) : Am := ⟨[.t (.v (.bool r))], []⟩
def RN : Cx := ⟨1, [0], [.tmp 2]⟩
def TL (r : Bool) : Am := ⟨[.t (.v (.bool r))], []⟩
def cT : Cx := ⟨1, [0], [.tmp 2]⟩
def Oo (r : Bool) : Am := ⟨[.t (.v (.bool r))], []⟩
def TM : Cx := ⟨1, [0], [.tmp 2]⟩
def Nn (r : Bool) : Am := ⟨[.t (.v (.bool r))], []⟩
def RO : Cx := ⟨1, [0], [.tmp 2]⟩
def TN (r : Bool) : Am := ⟨[.t (.v (.bool r))], []⟩
def cU : Cx := ⟨1, [0], [.tmp 2]⟩
def QE (r : Bool) : Am := ⟨[.t (.v (.bool r))], []⟩
def VL : Cx := ⟨2, [0, 0], [.tmp 4]⟩
def VM (r : Bool) : Am := ⟨[.t (.v (.bool r))], []⟩
def hH : Cx := ⟨1, [0], [.tmp 2]⟩
def RP (r : Bool) : Am := ⟨[.t (.v (.bool r))], []⟩
def Zn : Cx := ⟨1, [0], [.tmp 2]⟩
def MJ (r : Bool) : Am := ⟨[.t (.v (.bool r))], []⟩
def QU : Cx := ⟨1, [0], [.tmp 2]⟩
def NH (r : Bool) : Am := ⟨[.t (.v (.bool r))], []⟩
def QF : Cx := ⟨1, [0], [.tmp 2]⟩
def HN (r : Bool) : Am := ⟨[.t (.v (.bool r))], []⟩
def Oq : Cx := ⟨2, [0, 0], [.tmp 4]⟩
def LS (r : Bool) : Am := ⟨[.t (.v (.bool r))], []⟩
def Ot : Cx := ⟨1, [0], [.tmp 2]⟩
def Fw (r : Bool) : Am := ⟨[.t (.v (.bool r))], []⟩
def LU : Cx := ⟨2, [0, 0], [.tmp 4]⟩
def TO (r : Bool) : Am := ⟨[.t (.v (.bool r))], []⟩
def cV : Cx := ⟨1, [0], [.tmp 2]⟩
def LV (r : A0 × A2) : Am := ⟨[.agg [.v (.int .i64 r.1.Kind), .v (.string r.1.Pre), .v (.string r.1.Local), .v (.string r.1.Uri), .sl true (r.1.Decls.map A1.row), .sl true (r.1.Attrs.map A4.row), .sl true (r.1.Kids.map (A0.row true)), .v (.string r.1.Text)]], [some [[.sl false (r.2.xb.map (rK .u8)), .v (.int .i64 r.2.xi), .v (.int .i64 r.2.xh)]]]⟩
def Ou : Cx := ⟨1, [1], [.cell 2 8 true]⟩
def VN (r : Int × A2) : Am := ⟨[.t (.v (.int .i64 r.1))], [some [[.sl false (r.2.xb.map (rK .u8)), .v (.int .i64 r.2.xi), .v (.int .i64 r.2.xh)]]]⟩
def hJ : Cx := ⟨2, [1, 0], [.tmp 4]⟩
def TP (r : ByteArray × A2) : Am := ⟨[.t (.v (.string r.1))], [some [[.sl false (r.2.xb.map (rK .u8)), .v (.int .i64 r.2.xi), .v (.int .i64 r.2.xh)]]]⟩
def cW : Cx := ⟨1, [1], [.tmp 2]⟩
def VO (r : ByteArray × A2) : Am := ⟨[.t (.v (.string r.1))], [some [[.sl false (r.2.xb.map (rK .u8)), .v (.int .i64 r.2.xi), .v (.int .i64 r.2.xh)]]]⟩
def hQ : Cx := ⟨1, [1], [.tmp 2]⟩
def VP (r : List A1 × A2) : Am := ⟨[.t (.sl true (r.1.map A1.row))], [some [[.sl false (r.2.xb.map (rK .u8)), .v (.int .i64 r.2.xi), .v (.int .i64 r.2.xh)]]]⟩
def hZ : Cx := ⟨1, [1], [.tmp 2]⟩
def LW (r : ByteArray × A2) : Am := ⟨[.t (.v (.string r.1))], [some [[.sl false (r.2.xb.map (rK .u8)), .v (.int .i64 r.2.xi), .v (.int .i64 r.2.xh)]]]⟩
def Ov : Cx := ⟨1, [1], [.tmp 2]⟩
def CQ (r : A0 × A2) : Am := ⟨[.agg [.v (.int .i64 r.1.Kind), .v (.string r.1.Pre), .v (.string r.1.Local), .v (.string r.1.Uri), .sl true (r.1.Decls.map A1.row), .sl true (r.1.Attrs.map A4.row), .sl false (r.1.Kids.map (A0.row false)), .v (.string r.1.Text)]], [some [[.sl false (r.2.xb.map (rK .u8)), .v (.int .i64 r.2.xi), .v (.int .i64 r.2.xh)]]]⟩
def Eo : Cx := ⟨1, [1], [.cell 2 8 true]⟩
def Jl (r : List Int × A2) : Am := ⟨[.t (.sl true (r.1.map rI))], [some [[.sl false (r.2.xb.map (rK .u8)), .v (.int .i64 r.2.xi), .v (.int .i64 r.2.xh)]]]⟩
def No : Cx := ⟨2, [1, 0], [.tmp 4]⟩
def TQ (r : AJ × A2) : Am := ⟨[.agg [.v (.int .i64 r.1.Tre.Kind), .v (.string r.1.Tre.Pre), .v (.string r.1.Tre.Local), .v (.string r.1.Tre.Uri), .sl false (r.1.Tre.Decls.map A1.row), .sl false (r.1.Tre.Attrs.map A4.row), .sl false (r.1.Tre.Kids.map (A0.row false)), .v (.string r.1.Tre.Text), .sl true (r.1.Path.map rI)]], [some [[.sl false (r.2.xb.map (rK .u8)), .v (.int .i64 r.2.xi), .v (.int .i64 r.2.xh)]]]⟩
def cX : Cx := ⟨1, [1], [.cell 2 9 true]⟩
def Ow (r : A0 × Bool) : Am := ⟨[.agg [.v (.int .i64 r.1.Kind), .v (.string r.1.Pre), .v (.string r.1.Local), .v (.string r.1.Uri), .sl true (r.1.Decls.map A1.row), .sl true (r.1.Attrs.map A4.row), .sl true (r.1.Kids.map (A0.row true)), .v (.string r.1.Text)], .t (.v (.bool r.2))], []⟩
def TR : Cx := ⟨2, [0, 0], [.cell 4 8 true, .tmp 5]⟩
def Np (r : List A0 × A2) : Am := ⟨[.t (.sl true (r.1.map (A0.row true)))], [some [[.sl false (r.2.xb.map (rK .u8)), .v (.int .i64 r.2.xi), .v (.int .i64 r.2.xh)]]]⟩
def RQ : Cx := ⟨1, [1], [.tmp 2]⟩
def QV (r : AJ × A0) : Am := ⟨[.agg [.v (.int .i64 r.1.Tre.Kind), .v (.string r.1.Tre.Pre), .v (.string r.1.Tre.Local), .v (.string r.1.Tre.Uri), .sl false (r.1.Tre.Decls.map A1.row), .sl false (r.1.Tre.Attrs.map A4.row), .sl false (r.1.Tre.Kids.map (A0.row false)), .v (.string r.1.Tre.Text), .sl true (r.1.Path.map rI)], .agg [.v (.int .i64 r.2.Kind), .v (.string r.2.Pre), .v (.string r.2.Local), .v (.string r.2.Uri), .sl false (r.2.Decls.map A1.row), .sl false (r.2.Attrs.map A4.row), .sl false (r.2.Kids.map (A0.row false)), .v (.string r.2.Text)]], []⟩
def YC : Cx := ⟨1, [0], [.cell 2 9 true, .cell 3 8 true]⟩
def MV (r : List A1) : Am := ⟨[.t (.sl true (r.map A1.row))], []⟩
def MW : Cx := ⟨1, [0], [.tmp 2]⟩
def MX (r : List A4) : Am := ⟨[.t (.sl true (r.map A4.row))], []⟩
def MY : Cx := ⟨1, [0], [.tmp 2]⟩
def KX (r : A0) : Am := ⟨[.agg [.v (.int .i64 r.Kind), .v (.string r.Pre), .v (.string r.Local), .v (.string r.Uri), .sl true (r.Decls.map A1.row), .sl true (r.Attrs.map A4.row), .sl true (r.Kids.map (A0.row true)), .v (.string r.Text)]], []⟩
def Wn : Cx := ⟨1, [0], [.cell 2 8 true]⟩
def G8 (r : List A0) : Am := ⟨[.t (.sl true (r.map (A0.row true)))], []⟩
def OO : Cx := ⟨1, [0], [.tmp 2]⟩
def Nq (r : List Int) : Am := ⟨[.t (.sl true (r.map rI))], []⟩
def Nr : Cx := ⟨1, [0], [.tmp 2]⟩
def PY (r : AJ) : Am := ⟨[.agg [.v (.int .i64 r.Tre.Kind), .v (.string r.Tre.Pre), .v (.string r.Tre.Local), .v (.string r.Tre.Uri), .sl true (r.Tre.Decls.map A1.row), .sl true (r.Tre.Attrs.map A4.row), .sl true (r.Tre.Kids.map (A0.row true)), .v (.string r.Tre.Text), .sl true (r.Path.map rI)]], []⟩
def Wo : Cx := ⟨1, [0], [.cell 2 9 true]⟩
def eU (r : Bool) : Am := ⟨[.t (.v (.bool r))], []⟩
def pQ : Cx := ⟨3, [0, 0, 0], [.tmp 6]⟩
def Ox (r : A0 × Bool) : Am := ⟨[.agg [.v (.int .i64 r.1.Kind), .v (.string r.1.Pre), .v (.string r.1.Local), .v (.string r.1.Uri), .sl true (r.1.Decls.map A1.row), .sl true (r.1.Attrs.map A4.row), .sl true (r.1.Kids.map (A0.row true)), .v (.string r.1.Text)], .t (.v (.bool r.2))], []⟩
def TS : Cx := ⟨2, [0, 0], [.cell 4 8 true, .tmp 5]⟩
def Jm (r : Int) : Am := ⟨[.t (.v (.int .i64 r))], []⟩
def RR : Cx := ⟨1, [0], [.tmp 2]⟩
def CM (r : Int × Int) : Am := ⟨[.t (.v (.int .i32 r.1)), .t (.v (.int .i64 r.2))], []⟩
def IM : Cx := ⟨1, [0], [.tmp 2, .tmp 3]⟩
def TU (r : Int × Int × Bool) : Am := ⟨[.t (.v (.int .i64 r.1)), .t (.v (.int .i64 r.2.1)), .t (.v (.bool r.2.2))], []⟩
def cY : Cx := ⟨2, [0, 0], [.tmp 4, .tmp 5, .tmp 6]⟩
def RT (r : Bool × Int) : Am := ⟨[.t (.v (.bool r.1))], [some [[.v (.int .i64 r.2)]]]⟩
def Zo : Cx := ⟨2, [0, 1], [.tmp 3]⟩
def CX (r : Int × Int) : Am := ⟨[.t (.v (.int .i64 r.1))], [some [[.v (.int .i64 r.2)]]]⟩
def Ed : Cx := ⟨2, [0, 1], [.tmp 4]⟩
def Dn (r : Bool × Int) : Am := ⟨[.t (.v (.bool r.1))], [some [[.v (.int .i64 r.2)]]]⟩
def HO : Cx := ⟨2, [0, 1], [.tmp 4]⟩
def VQ (r : Bool) : Am := ⟨[.t (.v (.bool r))], []⟩
def i6 : Cx := ⟨2, [0, 0], [.tmp 4]⟩
def TV (r : Bool) : Am := ⟨[.t (.v (.bool r))], []⟩
def cZ : Cx := ⟨1, [0], [.tmp 2]⟩
def Ns (r : Bool) : Am := ⟨[.t (.v (.bool r))], []⟩
def RU : Cx := ⟨1, [0], [.tmp 2]⟩
def TW (r : Bool) : Am := ⟨[.t (.v (.bool r))], []⟩
def cd : Cx := ⟨1, [0], [.tmp 2]⟩
def I2 (r : Bool) : Am := ⟨[.t (.v (.bool r))], []⟩
def UA : Cx := ⟨2, [0, 0], [.tmp 4]⟩
def Ee (r : Bool) : Am := ⟨[.t (.v (.bool r))], []⟩
def Jn : Cx := ⟨2, [0, 0], [.tmp 4]⟩
def MZ (r : Bool) : Am := ⟨[.t (.v (.bool r))], []⟩
def Sc : Cx := ⟨2, [0, 0], [.tmp 4]⟩
def TX (r : Bool) : Am := ⟨[.t (.v (.bool r))], []⟩
def cf : Cx := ⟨1, [0], [.tmp 2]⟩
def RW (r : Bool) : Am := ⟨[.t (.v (.bool r))], []⟩
def Zp : Cx := ⟨1, [0], [.tmp 2]⟩
def TY (r : Bool) : Am := ⟨[.t (.v (.bool r))], []⟩
def cg : Cx := ⟨1, [0], [.tmp 2]⟩
def Nt (r : Bool) : Am := ⟨[.t (.v (.bool r))], []⟩
def RX : Cx := ⟨1, [0], [.tmp 2]⟩
def H4 (r : Bool) : Am := ⟨[.t (.v (.bool r))], []⟩
def Sd : Cx := ⟨2, [0, 0], [.tmp 4]⟩
def RY (r : Bool) : Am := ⟨[.t (.v (.bool r))], []⟩
def Zq : Cx := ⟨1, [0], [.tmp 2]⟩
def TZ (r : Bool) : Am := ⟨[.t (.v (.bool r))], []⟩
def cj : Cx := ⟨2, [0, 0], [.tmp 4]⟩
def Oy (r : Bool) : Am := ⟨[.t (.v (.bool r))], []⟩
def Ta : Cx := ⟨1, [0], [.tmp 2]⟩
def Ef (r : Bool) : Am := ⟨[.t (.v (.bool r))], []⟩
def Jo : Cx := ⟨2, [0, 0], [.tmp 4]⟩
def Ma (r : Bool) : Am := ⟨[.t (.v (.bool r))], []⟩
def Se : Cx := ⟨2, [0, 0], [.tmp 4]⟩
def VR (r : Bool) : Am := ⟨[.t (.v (.bool r))], []⟩
def i7 : Cx := ⟨1, [0], [.tmp 2]⟩
def VS (r : Bool) : Am := ⟨[.t (.v (.bool r))], []⟩
def i8 : Cx := ⟨2, [0, 0], [.tmp 4]⟩
def Tb (r : Bool) : Am := ⟨[.t (.v (.bool r))], []⟩
def cm : Cx := ⟨1, [0], [.tmp 2]⟩
def Nu (r : Bool) : Am := ⟨[.t (.v (.bool r))], []⟩
def RZ : Cx := ⟨1, [0], [.tmp 2]⟩
def Tc (r : Bool) : Am := ⟨[.t (.v (.bool r))], []⟩
def cn : Cx := ⟨1, [0], [.tmp 2]⟩
def Jp (r : Int) : Am := ⟨[.t (.v (.int .i64 r))], []⟩
def VT : Cx := ⟨2, [0, 0], [.tmp 4]⟩
def Mb (r : Int) : Am := ⟨[.t (.v (.int .i64 r))], []⟩
def Sg : Cx := ⟨2, [0, 0], [.tmp 4]⟩
def Nv (r : Bool) : Am := ⟨[.t (.v (.bool r))], []⟩
def Ra : Cx := ⟨1, [0], [.tmp 2]⟩
def Jq (r : Bool) : Am := ⟨[.t (.v (.bool r))], []⟩
def OP : Cx := ⟨1, [0], [.tmp 2]⟩
def Oz (r : Bool) : Am := ⟨[.t (.v (.bool r))], []⟩
def cr : Cx := ⟨2, [0, 0], [.tmp 4]⟩
def C5 (r : Bool × Int) : Am := ⟨[.t (.v (.bool r.1))], [some [[.v (.int .i64 r.2)]]]⟩
def HP : Cx := ⟨2, [0, 1], [.tmp 4]⟩
def BT (r : Int × Int) : Am := ⟨[.t (.v (.int .i64 r.1))], [some [[.v (.int .i64 r.2)]]]⟩
def Eg : Cx := ⟨2, [0, 1], [.tmp 4]⟩
def MK (r : Bool × Int) : Am := ⟨[.t (.v (.bool r.1))], [some [[.v (.int .i64 r.2)]]]⟩
def YD : Cx := ⟨2, [0, 1], [.tmp 3]⟩
def P0 (r : Bool) : Am := ⟨[.t (.v (.bool r))], []⟩
def cu : Cx := ⟨2, [0, 0], [.tmp 4]⟩
def P2 (r : Int) : Am := ⟨[.t (.v (.int .i64 r))], []⟩
def Td : Cx := ⟨2, [0, 0], [.tmp 4]⟩
def P4 (r : Bool) : Am := ⟨[.t (.v (.bool r))], []⟩
def Te : Cx := ⟨1, [0], [.tmp 2]⟩
def Tf (r : Bool) : Am := ⟨[.t (.v (.bool r))], []⟩
def cx : Cx := ⟨2, [0, 0], [.tmp 4]⟩
def Tg (r : Bool) : Am := ⟨[.t (.v (.bool r))], []⟩
def cy : Cx := ⟨1, [0], [.tmp 2]⟩
def Th (r : Bool) : Am := ⟨[.t (.v (.bool r))], []⟩
def cz : Cx := ⟨1, [0], [.tmp 2]⟩
def Xg (r : A0) : Am := ⟨[.agg [.v (.int .i64 r.Kind), .v (.string r.Pre), .v (.string r.Local), .v (.string r.Uri), .sl true (r.Decls.map A1.row), .sl true (r.Attrs.map A4.row), .sl true (r.Kids.map (A0.row true)), .v (.string r.Text)]], []⟩
def ju : Cx := ⟨1, [0], [.cell 2 8 true]⟩
def Lo (r : List A0) : Am := ⟨[.t (.sl true (r.map (A0.row false)))], []⟩
def Rb : Cx := ⟨1, [0], [.tmp 2]⟩
def Jr (r : List A0) : Am := ⟨[.t (.sl true (r.map (A0.row true)))], []⟩
def NI : Cx := ⟨1, [0], [.tmp 2]⟩
def Rc (r : List A0) : Am := ⟨[.t (.sl true (r.map (A0.row true)))], []⟩
def Zr : Cx := ⟨4, [0, 0, 0, 0], [.tmp 8]⟩
def Nw (r : A0) : Am := ⟨[.agg [.v (.int .i64 r.Kind), .v (.string r.Pre), .v (.string r.Local), .v (.string r.Uri), .sl true (r.Decls.map A1.row), .sl true (r.Attrs.map A4.row), .sl true (r.Kids.map (A0.row true)), .v (.string r.Text)]], [none, none, none]⟩
def UB : Cx := ⟨3, [3, 0, 0], [.cell 4 8 true]⟩
def IJ (r : A0) : Am := ⟨[.agg [.v (.int .i64 r.Kind), .v (.string r.Pre), .v (.string r.Local), .v (.string r.Uri), .sl true (r.Decls.map A1.row), .sl true (r.Attrs.map A4.row), .sl true (r.Kids.map (A0.row true)), .v (.string r.Text)]], []⟩
def PZ : Cx := ⟨3, [0, 0, 0], [.cell 6 8 true]⟩
def VU (r : A0 × Bool) : Am := ⟨[.agg [.v (.int .i64 r.1.Kind), .v (.string r.1.Pre), .v (.string r.1.Local), .v (.string r.1.Uri), .sl true (r.1.Decls.map A1.row), .sl true (r.1.Attrs.map A4.row), .sl true (r.1.Kids.map (A0.row true)), .v (.string r.1.Text)], .t (.v (.bool r.2))], []⟩
def iA : Cx := ⟨3, [0, 0, 0], [.cell 6 8 true, .tmp 7]⟩
def Xh (r : AJ × Bool) : Am := ⟨[.agg [.v (.int .i64 r.1.Tre.Kind), .v (.string r.1.Tre.Pre), .v (.string r.1.Tre.Local), .v (.string r.1.Tre.Uri), .sl true (r.1.Tre.Decls.map A1.row), .sl true (r.1.Tre.Attrs.map A4.row), .sl true (r.1.Tre.Kids.map (A0.row true)), .v (.string r.1.Tre.Text), .sl true (r.1.Path.map rI)], .t (.v (.bool r.2))], []⟩
def jv : Cx := ⟨2, [0, 0], [.cell 4 9 true, .tmp 5]⟩
def Rd (r : AJ) : Am := ⟨[.agg [.v (.int .i64 r.Tre.Kind), .v (.string r.Tre.Pre), .v (.string r.Tre.Local), .v (.string r.Tre.Uri), .sl true (r.Tre.Decls.map A1.row), .sl true (r.Tre.Attrs.map A4.row), .sl true (r.Tre.Kids.map (A0.row true)), .v (.string r.Tre.Text), .sl true (r.Path.map rI)]], []⟩
def Zs : Cx := ⟨1, [0], [.cell 2 9 true]⟩
def Ti (r : Bool) : Am := ⟨[.t (.v (.bool r))], []⟩
def d7 : Cx := ⟨1, [0], [.tmp 2]⟩
def Xi (r : A0) : Am := ⟨[.agg [.v (.int .i64 r.Kind), .v (.string r.Pre), .v (.string r.Local), .v (.string r.Uri), .sl true (r.Decls.map A1.row), .sl true (r.Attrs.map A4.row), .sl true (r.Kids.map (A0.row true)), .v (.string r.Text)]], []⟩
def jw : Cx := ⟨1, [0], [.cell 2 8 true]⟩
def Re (r : A0) : Am := ⟨[.agg [.v (.int .i64 r.Kind), .v (.string r.Pre), .v (.string r.Local), .v (.string r.Uri), .sl false (r.Decls.map A1.row), .sl false (r.Attrs.map A4.row), .sl false (r.Kids.map (A0.row false)), .v (.string r.Text)]], []⟩
def Zt : Cx := ⟨5, [0, 0, 0, 0, 0], [.cell 10 8 true]⟩
def VV (r : A0 × Bool) : Am := ⟨[.agg [.v (.int .i64 r.1.Kind), .v (.string r.1.Pre), .v (.string r.1.Local), .v (.string r.1.Uri), .sl true (r.1.Decls.map A1.row), .sl true (r.1.Attrs.map A4.row), .sl true (r.1.Kids.map (A0.row true)), .v (.string r.1.Text)], .t (.v (.bool r.2))], []⟩
def iB : Cx := ⟨3, [0, 0, 0], [.cell 6 8 true, .tmp 7]⟩
def Xj (r : AJ × Bool) : Am := ⟨[.agg [.v (.int .i64 r.1.Tre.Kind), .v (.string r.1.Tre.Pre), .v (.string r.1.Tre.Local), .v (.string r.1.Tre.Uri), .sl true (r.1.Tre.Decls.map A1.row), .sl true (r.1.Tre.Attrs.map A4.row), .sl true (r.1.Tre.Kids.map (A0.row true)), .v (.string r.1.Tre.Text), .sl true (r.1.Path.map rI)], .t (.v (.bool r.2))], []⟩
def jx : Cx := ⟨2, [0, 0], [.cell 4 9 true, .tmp 5]⟩
def H5 (r : Bool) : Am := ⟨[.t (.v (.bool r))], []⟩
def Mc : Cx := ⟨2, [0, 0], [.tmp 4]⟩
def H6 (r : Bool) : Am := ⟨[.t (.v (.bool r))], []⟩
def Me : Cx := ⟨2, [0, 0], [.tmp 4]⟩
def Pa (r : Bool) : Am := ⟨[.t (.v (.bool r))], []⟩
def Wp : Cx := ⟨2, [0, 0], [.tmp 4]⟩
def ML (r : Bool) : Am := ⟨[.t (.v (.bool r))], []⟩
def YE : Cx := ⟨2, [0, 0], [.tmp 4]⟩
def BU (r : Bool) : Am := ⟨[.t (.v (.bool r))], []⟩
def Eh : Cx := ⟨3, [0, 0, 0], [.tmp 6]⟩
def MM (r : Bool) : Am := ⟨[.t (.v (.bool r))], []⟩
def QW : Cx := ⟨2, [0, 0], [.tmp 4]⟩
def QX (r : Bool) : Am := ⟨[.t (.v (.bool r))], []⟩
def YF : Cx := ⟨2, [0, 0], [.tmp 4]⟩
def Rf (r : Bool) : Am := ⟨[.t (.v (.bool r))], []⟩
def Zu : Cx := ⟨1, [0], [.tmp 2]⟩
theorem lT {α : Type} (l : List α) : ((A8 l).toNat < l.length + 1) = True := by simp [A8]
theorem pR {α : Type} (l : List α) (x : α) : getI (l ++ [x]) (A8 l) = some x := by simp [getI, A8]
theorem tR {α : Type} (l : List α) (x y : α) : (l ++ [x]).set (A8 l).toNat y = l ++ [y] := by simp [A8]
theorem tT {α : Type} (l : List α) (x : α) : (l ++ [x])[(A8 l).toNat]? = some x := by simp [A8]
theorem A0y {α : Type} (l : List α) : (0 ≤ A8 l) = True := by simp [A8]
theorem A0z (o : Bool) (l : List A0) (i : Nat) (v0 : Int) (v1 : ByteArray) (v2 : ByteArray) (v3 : ByteArray) (v7 : ByteArray) (x : A0) : (l.map (A0.row o)).set i [.v (.int .i64 v0), .v (.string v1), .v (.string v2), .v (.string v3), .sl o [], .sl o [], .sl o [[.v (.int .i64 x.Kind), .v (.string x.Pre), .v (.string x.Local), .v (.string x.Uri), .sl o (x.Decls.map A1.row), .sl o (x.Attrs.map A4.row), .sl o (x.Kids.map (A0.row o)), .v (.string x.Text)]], .v (.string v7)] = (l.set i (A0.mk v0 v1 v2 v3 [] [] [x] v7)).map (A0.row o) := Qg (A0.row o) l i (A0.mk v0 v1 v2 v3 [] [] [x] v7) _ (by simp only [A0.row_eq, List.map_cons, List.map_nil])
def ES := And.intro @lT <| And.intro @pR <| And.intro @tR <| And.intro @tT <| And.intro @A0y <| And.intro @A0z <| And.intro (@Zk.eq_1) <| And.intro (@mi.eq_1) <| And.intro (@QC.eq_1) <| And.intro (@VD.eq_1) <| And.intro (@TE.eq_1) <| And.intro (@cM.eq_1) <| And.intro (@RH.eq_1) <| And.intro (@Zl.eq_1) <| And.intro (@TF.eq_1) <| And.intro (@cN.eq_1) <| And.intro (@VE.eq_1) <| And.intro (@gt.eq_1) <| And.intro (@VF.eq_1) <| And.intro (@gu.eq_1) <| And.intro (@TG.eq_1) <| And.intro (@cO.eq_1) <| And.intro (@Om.eq_1) <| And.intro (@TH.eq_1) <| And.intro (@VG.eq_1) <| And.intro (@gv.eq_1) <| And.intro (@Nk.eq_1) <| And.intro (@RI.eq_1) <| And.intro (@VH.eq_1) <| And.intro (@gw.eq_1) <| And.intro (@TI.eq_1) <| And.intro (@cP.eq_1) <| And.intro (@NF.eq_1) <| And.intro (@VI.eq_1) <| And.intro (@On.eq_1) <| And.intro (@cQ.eq_1) <| And.intro (@NG.eq_1) <| And.intro (@QD.eq_1) <| And.intro (@Dm.eq_1) <| And.intro (@Fc.eq_1) <| And.intro (@Jk.eq_1) <| And.intro (@RJ.eq_1) <| And.intro (@Xf.eq_1) <| And.intro (@jt.eq_1) <| And.intro (@Fv.eq_1) <| And.intro (@HM.eq_1) <| And.intro (@MI.eq_1) <| And.intro (@QT.eq_1) <| And.intro (@RL.eq_1) <| And.intro (@Zm.eq_1) <| And.intro (@TJ.eq_1) <| And.intro (@cR.eq_1) <| And.intro (@Nl.eq_1) <| And.intro (@RM.eq_1) <| And.intro (@VJ.eq_1) <| And.intro (@gy.eq_1) <| And.intro (@VK.eq_1) <| And.intro (@gz.eq_1) <| And.intro (@TK.eq_1) <| And.intro (@cS.eq_1) <| And.intro (@Nm.eq_1) <| And.intro (@RN.eq_1) <| And.intro (@TL.eq_1) <| And.intro (@cT.eq_1) <| And.intro (@Oo.eq_1) <| And.intro (@TM.eq_1) <| And.intro (@Nn.eq_1) <| And.intro (@RO.eq_1) <| And.intro (@TN.eq_1) <| And.intro (@cU.eq_1) <| And.intro (@QE.eq_1) <| And.intro (@VL.eq_1) <| And.intro (@VM.eq_1) <| And.intro (@hH.eq_1) <| And.intro (@RP.eq_1) <| And.intro (@Zn.eq_1) <| And.intro (@MJ.eq_1) <| And.intro (@QU.eq_1) <| And.intro (@NH.eq_1) <| And.intro (@QF.eq_1) <| And.intro (@HN.eq_1) <| And.intro (@Oq.eq_1) <| And.intro (@LS.eq_1) <| And.intro (@Ot.eq_1) <| And.intro (@Fw.eq_1) <| And.intro (@LU.eq_1) <| And.intro (@TO.eq_1) <| And.intro (@cV.eq_1) <| And.intro (@LV.eq_1) <| And.intro (@Ou.eq_1) <| And.intro (@VN.eq_1) <| And.intro (@hJ.eq_1) <| And.intro (@TP.eq_1) <| And.intro (@cW.eq_1) <| And.intro (@VO.eq_1) <| And.intro (@hQ.eq_1) <| And.intro (@VP.eq_1) <| And.intro (@hZ.eq_1) <| And.intro (@LW.eq_1) <| And.intro (@Ov.eq_1) <| And.intro (@CQ.eq_1) <| And.intro (@Eo.eq_1) <| And.intro (@Jl.eq_1) <| And.intro (@No.eq_1) <| And.intro (@TQ.eq_1) <| And.intro (@cX.eq_1) <| And.intro (@Ow.eq_1) <| And.intro (@TR.eq_1) <| And.intro (@Np.eq_1) <| And.intro (@RQ.eq_1) <| And.intro (@QV.eq_1) <| And.intro (@YC.eq_1) <| And.intro (@MV.eq_1) <| And.intro (@MW.eq_1) <| And.intro (@MX.eq_1) <| And.intro (@MY.eq_1) <| And.intro (@KX.eq_1) <| And.intro (@Wn.eq_1) <| And.intro (@G8.eq_1) <| And.intro (@OO.eq_1) <| And.intro (@Nq.eq_1) <| And.intro (@Nr.eq_1) <| And.intro (@PY.eq_1) <| And.intro (@Wo.eq_1) <| And.intro (@eU.eq_1) <| And.intro (@pQ.eq_1) <| And.intro (@Ox.eq_1) <| And.intro (@TS.eq_1) <| And.intro (@Jm.eq_1) <| And.intro (@RR.eq_1) <| And.intro (@CM.eq_1) <| And.intro (@IM.eq_1) <| And.intro (@TU.eq_1) <| And.intro (@cY.eq_1) <| And.intro (@RT.eq_1) <| And.intro (@Zo.eq_1) <| And.intro (@CX.eq_1) <| And.intro (@Ed.eq_1) <| And.intro (@Dn.eq_1) <| And.intro (@HO.eq_1) <| And.intro (@VQ.eq_1) <| And.intro (@i6.eq_1) <| And.intro (@TV.eq_1) <| And.intro (@cZ.eq_1) <| And.intro (@Ns.eq_1) <| And.intro (@RU.eq_1) <| And.intro (@TW.eq_1) <| And.intro (@cd.eq_1) <| And.intro (@I2.eq_1) <| And.intro (@UA.eq_1) <| And.intro (@Ee.eq_1) <| And.intro (@Jn.eq_1) <| And.intro (@MZ.eq_1) <| And.intro (@Sc.eq_1) <| And.intro (@TX.eq_1) <| And.intro (@cf.eq_1) <| And.intro (@RW.eq_1) <| And.intro (@Zp.eq_1) <| And.intro (@TY.eq_1) <| And.intro (@cg.eq_1) <| And.intro (@Nt.eq_1) <| And.intro (@RX.eq_1) <| And.intro (@H4.eq_1) <| And.intro (@Sd.eq_1) <| And.intro (@RY.eq_1) <| And.intro (@Zq.eq_1) <| And.intro (@TZ.eq_1) <| And.intro (@cj.eq_1) <| And.intro (@Oy.eq_1) <| And.intro (@Ta.eq_1) <| And.intro (@Ef.eq_1) <| And.intro (@Jo.eq_1) <| And.intro (@Ma.eq_1) <| And.intro (@Se.eq_1) <| And.intro (@VR.eq_1) <| And.intro (@i7.eq_1) <| And.intro (@VS.eq_1) <| And.intro (@i8.eq_1) <| And.intro (@Tb.eq_1) <| And.intro (@cm.eq_1) <| And.intro (@Nu.eq_1) <| And.intro (@RZ.eq_1) <| And.intro (@Tc.eq_1) <| And.intro (@cn.eq_1) <| And.intro (@Jp.eq_1) <| And.intro (@VT.eq_1) <| And.intro (@Mb.eq_1) <| And.intro (@Sg.eq_1) <| And.intro (@Nv.eq_1) <| And.intro (@Ra.eq_1) <| And.intro (@Jq.eq_1) <| And.intro (@OP.eq_1) <| And.intro (@Oz.eq_1) <| And.intro (@cr.eq_1) <| And.intro (@C5.eq_1) <| And.intro (@HP.eq_1) <| And.intro (@BT.eq_1) <| And.intro (@Eg.eq_1) <| And.intro (@MK.eq_1) <| And.intro (@YD.eq_1) <| And.intro (@P0.eq_1) <| And.intro (@cu.eq_1) <| And.intro (@P2.eq_1) <| And.intro (@Td.eq_1) <| And.intro (@P4.eq_1) <| And.intro (@Te.eq_1) <| And.intro (@Tf.eq_1) <| And.intro (@cx.eq_1) <| And.intro (@Tg.eq_1) <| And.intro (@cy.eq_1) <| And.intro (@Th.eq_1) <| And.intro (@cz.eq_1) <| And.intro (@Xg.eq_1) <| And.intro (@ju.eq_1) <| And.intro (@Lo.eq_1) <| And.intro (@Rb.eq_1) <| And.intro (@Jr.eq_1) <| And.intro (@NI.eq_1) <| And.intro (@Rc.eq_1) <| And.intro (@Zr.eq_1) <| And.intro (@Nw.eq_1) <| And.intro (@UB.eq_1) <| And.intro (@IJ.eq_1) <| And.intro (@PZ.eq_1) <| And.intro (@VU.eq_1) <| And.intro (@iA.eq_1) <| And.intro (@Xh.eq_1) <| And.intro (@jv.eq_1) <| And.intro (@Rd.eq_1) <| And.intro (@Zs.eq_1) <| And.intro (@Ti.eq_1) <| And.intro (@d7.eq_1) <| And.intro (@Xi.eq_1) <| And.intro (@jw.eq_1) <| And.intro (@Re.eq_1) <| And.intro (@Zt.eq_1) <| And.intro (@VV.eq_1) <| And.intro (@iB.eq_1) <| And.intro (@Xj.eq_1) <| And.intro (@jx.eq_1) <| And.intro (@H5.eq_1) <| And.intro (@Mc.eq_1) <| And.intro (@H6.eq_1) <| And.intro (@Me.eq_1) <| And.intro (@Pa.eq_1) <| And.intro (@Wp.eq_1) <| And.intro (@ML.eq_1) <| And.intro (@YE.eq_1) <| And.intro (@BU.eq_1) <| And.intro (@Eh.eq_1) <| And.intro (@MM.eq_1) <| And.intro (@QW.eq_1) <| And.intro (@QX.eq_1) <| And.intro (@YF.eq_1) <| And.intro (@Rf.eq_1) <| @Zu.eq_1
theorem xN {f : FuncId} (h : AF.cl.contains f = false) (h2 : (AF.lb.all fun p => p.1 != f) = true) (args : List GA) : Sw AF f args = none := qh h h2 args
theorem lB {a b : Nat} (h : Nat.ble a b = true) : a ≤ b := Nat.le_of_ble_eq_true h
theorem gs {p : Prop} (h : p := by
 try simp only [Ol, RS, reduceAdd, reduceSub, reduceMul, reduceLeDiff, reduceLT, reduceEqDiff, Nat.reduceBEq, ↓reduceIte, reduceCtorEq] at g0
 try simp only [Ol, RS, reduceAdd, reduceSub, reduceMul, reduceLeDiff, reduceLT, reduceEqDiff, Nat.reduceBEq, ↓reduceIte, reduceCtorEq] at g1
 try simp only [Ol, RS, reduceAdd, reduceSub, reduceMul, reduceLeDiff, reduceLT, reduceEqDiff, Nat.reduceBEq, ↓reduceIte, reduceCtorEq] at g2
 try simp only [Ol, RS, reduceAdd, reduceSub, reduceMul, reduceLeDiff, reduceLT, reduceEqDiff, Nat.reduceBEq, ↓reduceIte, reduceCtorEq] at g3
 try simp only [Ol, RS, reduceAdd, reduceSub, reduceMul, reduceLeDiff, reduceLT, reduceEqDiff, Nat.reduceBEq, ↓reduceIte, reduceCtorEq] at g4
 try simp only [Ol, RS, reduceAdd, reduceSub, reduceMul, reduceLeDiff, reduceLT, reduceEqDiff, Nat.reduceBEq, ↓reduceIte, reduceCtorEq] at g5
 try simp only [Ol, RS, reduceAdd, reduceSub, reduceMul, reduceLeDiff, reduceLT, reduceEqDiff, Nat.reduceBEq, ↓reduceIte, reduceCtorEq] at g6
 try simp only [Ol, RS, reduceAdd, reduceSub, reduceMul, reduceLeDiff, reduceLT, reduceEqDiff, Nat.reduceBEq, ↓reduceIte, reduceCtorEq] at g7
 simp only [Ol, RS, ES, *, reduceAdd, reduceSub, reduceMul, reduceLeDiff, reduceLT, reduceEqDiff, Nat.reduceBEq, ↓reduceIte, reduceCtorEq]
 try clear k0
 try clear f0
 repeat' first
  | with_reducible exact um
  | ((with_reducible refine fU ?_); first | rfl | simp only [Ol, RS, ES])
  | ((with_reducible first
   | refine nX (t0 ..) ?_
   | refine nX (t1 ..) ?_); first | rfl | (simp only [Ol, RS, ES, reduceAdd, reduceSub, reduceMul, reduceLeDiff, reduceLT, reduceEqDiff, Nat.reduceBEq, ↓reduceIte, reduceCtorEq] <;> rfl) | (simp only [Ol, RS, ES, *, reduceAdd, reduceSub, reduceMul, reduceLeDiff, reduceLT, reduceEqDiff, Nat.reduceBEq, ↓reduceIte, reduceCtorEq] <;> rfl))
  | ((first
   | (with_reducible first
    | refine A0c (fun h => ?_) (fun h => ?_)
    | refine zp fun a h => ?_
    | refine DG (g0 ..) fun v => ?_
    | refine DG (g1 ..) fun v => ?_
    | refine DG (g2 ..) fun v => ?_
    | refine DG (g3 ..) fun v => ?_
    | refine DG (g4 ..) fun v => ?_
    | refine DG (g5 ..) fun v => ?_
    | refine DG (g6 ..) fun v => ?_
    | refine DG (g7 ..) fun v => ?_
    | refine DG g0 fun v => ?_
    | refine DG g1 fun v => ?_
    | refine DG g2 fun v => ?_
    | refine EB (p := Y1 _ _) fun a h => ?_
    | refine EB (p := lh _) fun a h => ?_
    | refine EB (p := room _ _) fun a h => ?_
    | refine EB (p := mkN _ _) fun a h => ?_
    | refine EB (p := Q2 _ _ _) fun a h => ?_
    | refine EB (p := slL _ _ _) fun a h => ?_
    | refine EB (p := Q1 _ _) fun a h => ?_
    | refine EB (p := yV _ _) fun a h => ?_
    | refine EB (p := lW _ _) fun a h => ?_
    | refine EB (p := yW _ _ _) fun a h => ?_
    | refine EB (p := A18 _ _ _) fun a h => ?_
    | refine EB (p := yX _ _ _) fun a h => ?_
    | refine EB (p := lX _ _ _) fun a h => ?_
    | refine wV fun h => ?_)
   | refine DG (g0 ..) fun v => ?_
   | refine DG (g1 ..) fun v => ?_
   | refine DG (g2 ..) fun v => ?_
   | refine DG (g3 ..) fun v => ?_
   | refine DG (g4 ..) fun v => ?_
   | refine DG (g5 ..) fun v => ?_
   | refine DG (g6 ..) fun v => ?_
   | refine DG (g7 ..) fun v => ?_
   | refine BP (g0 _) (by simp only [Ol, RS, List.map_cons, List.map_nil]) fun v => ?_
   | refine BP (g0 _ _) (by simp only [Ol, RS, List.map_cons, List.map_nil]) fun v => ?_
   | refine BP (g0 _ _ _) (by simp only [Ol, RS, List.map_cons, List.map_nil]) fun v => ?_
   | refine BP (g1 _) (by simp only [Ol, RS, List.map_cons, List.map_nil]) fun v => ?_
   | refine BP (g1 _ _) (by simp only [Ol, RS, List.map_cons, List.map_nil]) fun v => ?_
   | refine BP (g1 _ _ _) (by simp only [Ol, RS, List.map_cons, List.map_nil]) fun v => ?_
   | refine BP (g2 _) (by simp only [Ol, RS, List.map_cons, List.map_nil]) fun v => ?_
   | refine BP (g2 _ _) (by simp only [Ol, RS, List.map_cons, List.map_nil]) fun v => ?_
   | refine BP (g2 _ _ _) (by simp only [Ol, RS, List.map_cons, List.map_nil]) fun v => ?_
   | refine BP (g3 _) (by simp only [Ol, RS, List.map_cons, List.map_nil]) fun v => ?_
   | refine BP (g3 _ _) (by simp only [Ol, RS, List.map_cons, List.map_nil]) fun v => ?_
   | refine BP (g3 _ _ _) (by simp only [Ol, RS, List.map_cons, List.map_nil]) fun v => ?_
   | refine BP (g4 _) (by simp only [Ol, RS, List.map_cons, List.map_nil]) fun v => ?_
   | refine BP (g4 _ _) (by simp only [Ol, RS, List.map_cons, List.map_nil]) fun v => ?_
   | refine BP (g4 _ _ _) (by simp only [Ol, RS, List.map_cons, List.map_nil]) fun v => ?_
   | refine BP (g5 _) (by simp only [Ol, RS, List.map_cons, List.map_nil]) fun v => ?_
   | refine BP (g5 _ _) (by simp only [Ol, RS, List.map_cons, List.map_nil]) fun v => ?_
   | refine BP (g5 _ _ _) (by simp only [Ol, RS, List.map_cons, List.map_nil]) fun v => ?_
   | refine BP (g6 _) (by simp only [Ol, RS, List.map_cons, List.map_nil]) fun v => ?_
   | refine BP (g6 _ _) (by simp only [Ol, RS, List.map_cons, List.map_nil]) fun v => ?_
   | refine BP (g6 _ _ _) (by simp only [Ol, RS, List.map_cons, List.map_nil]) fun v => ?_
   | refine BP (g7 _) (by simp only [Ol, RS, List.map_cons, List.map_nil]) fun v => ?_
   | refine BP (g7 _ _) (by simp only [Ol, RS, List.map_cons, List.map_nil]) fun v => ?_
   | refine BP (g7 _ _ _) (by simp only [Ol, RS, List.map_cons, List.map_nil]) fun v => ?_) <;> simp only [Ol, RS, ES, *, reduceAdd, reduceSub, reduceMul, reduceLeDiff, reduceLT, reduceEqDiff, Nat.reduceBEq, ↓reduceIte, reduceCtorEq])) : p := h
theorem jy : ∀ (code : List Int), Ok (VC code) Zk (dn AF Zj [.t (.sl false (code.map (rK .u8)))]) := by
 intro code
 rw [A9 AF (fn := QB) rfl (xN rfl rfl _) (lB rfl)]
 have k0 := @QB.eq_1; have f0 := @VC.eq_1
 exact gs
theorem Wq (code : List Int) : ∀ (h : Int) (i : Int), Ok (Em code h i) QC (ev AF VD (.loop Ly) [.lv 0, .th Lz] (BZ (List.replicate 32 .dead) [(0, .t (.sl false (code.map (rK .u8)))), (3, .t (.v (.int .i64 h))), (4, .t (.v (.int .i64 i)))]) (Ba (List.replicate 32 []) [])) := by
 unfold Ok
 refine Em.partial_correctness code _ ?_
 intro F ih h i
 show Ok _ _ _
 have ih : ∀ (h : Int) (i : Int), Ok (F h i) _ _ := ih
 rw [AZ]
 have k0 := @Ly.eq_1; have k1 := @Lz.eq_1; have t0 := ih
 exact gs
theorem d8 : ∀ (code : List Int), Ok (Nd code) QC (dn AF V6 [.t (.sl false (code.map (rK .u8)))]) := by
 intro code
 rw [A9 AF (fn := Mq) rfl (xN rfl rfl _) (lB rfl)]
 have k0 := @Mq.eq_1; have f0 := @Nd.eq_1; have t0 := Wq
 exact gs
theorem Zv : ∀ (c : A2), Ok (FX c) TE (dn AF HD [.lp [.sl false (c.xb.map (rK .u8)), .v (.int .i64 c.xi), .v (.int .i64 c.xh)] 0]) := by
 intro c
 rw [A9 AF (fn := Kx) rfl (xN rfl rfl _) (lB rfl)]
 have k0 := @Kx.eq_1; have f0 := @FX.eq_1
 exact gs
theorem Ad : ∀ (c : A2) (n : Int), Ok (Ap c n) RH (dn AF Ao [.lp [.sl false (c.xb.map (rK .u8)), .v (.int .i64 c.xi), .v (.int .i64 c.xh)] 0, .t (.v (.int .i64 n))]) := by
 intro c n
 rw [A9 AF (fn := Ij) rfl (xN rfl rfl _) (lB rfl)]
 have k0 := @Ij.eq_1; have f0 := @Ap.eq_1; have g0 := Zv
 exact gs
theorem Bf : ∀ (c : A2) (n : Int), Ok (Bd c n) TF (dn AF Bg [.lp [.sl false (c.xb.map (rK .u8)), .v (.int .i64 c.xi), .v (.int .i64 c.xh)] 0, .t (.v (.int .i64 n))]) := by
 intro c n
 rw [A9 AF (fn := Kv) rfl (xN rfl rfl _) (lB rfl)]
 have k0 := @Kv.eq_1; have f0 := @Bd.eq_1; have g0 := Ad
 exact gs
theorem Ay : ∀ (c : A2) (list : List ByteArray), Ok (AS c list) VE (dn AF AI [.lp [.sl false (c.xb.map (rK .u8)), .v (.int .i64 c.xi), .v (.int .i64 c.xh)] 0, .t (.sl false (list.map rS))]) := by
 intro c list
 rw [A9 AF (fn := Mr) rfl (xN rfl rfl _) (lB rfl)]
 have k0 := @Mr.eq_1; have f0 := @AS.eq_1; have g0 := Ad
 exact gs
theorem P5 : ∀ (c : A2), Ok (KW c) VF (dn AF Q7 [.lp [.sl false (c.xb.map (rK .u8)), .v (.int .i64 c.xi), .v (.int .i64 c.xh)] 0]) := by
 intro c
 rw [A9 AF (fn := Mw) rfl (xN rfl rfl _) (lB rfl)]
 have k0 := @Mw.eq_1; have f0 := @KW.eq_1; have g0 := Ay
 exact gs
theorem Rg : ∀ (c : A2), Ok (GP c) TG (dn AF Kj [.lp [.sl false (c.xb.map (rK .u8)), .v (.int .i64 c.xi), .v (.int .i64 c.xh)] 0]) := by
 intro c
 rw [A9 AF (fn := LB) rfl (xN rfl rfl _) (lB rfl)]
 have k0 := @LB.eq_1; have f0 := @GP.eq_1; have g0 := Ay; have g1 := P5; have g2 := Bf
 exact gs
theorem VW : ∀ (l : List (A1)) (i : Int) (c1 : A2), Ok (Be l i c1) Om (ev AF TH (.loop KN) [.lv 0, .th KO] (BZ (List.replicate 35 .dead) [(0, .ptr (0, 0) [] 0 0 1 0), (3, .ref (6, 0) l.length), (4, .t (.v (.int .i64 i)))]) (Ba (List.replicate 35 []) [(0, [.mem [[.sl false (c1.xb.map (rK .u8)), .v (.int .i64 c1.xi), .v (.int .i64 c1.xh)]] 0 true]), (6, [.mem (l.map A1.row) 0 false])])) := by
 unfold Ok
 refine Be.partial_correctness _ ?_
 intro F ih l i c1
 show Ok _ _ _
 have ih : ∀ (l : List (A1)) (i : Int) (c1 : A2), Ok (F l i c1) _ _ := ih
 rw [AZ]
 have k0 := @KN.eq_1; have k1 := @KO.eq_1; have g0 := Rg; have t0 := ih
 exact gs
theorem Rh : ∀ (c : A2), Ok (IB c) Om (dn AF Oh [.lp [.sl false (c.xb.map (rK .u8)), .v (.int .i64 c.xi), .v (.int .i64 c.xh)] 0]) := by
 intro c
 rw [A9 AF (fn := L7) rfl (xN rfl rfl _) (lB rfl)]
 have k0 := @L7.eq_1; have f0 := @IB.eq_1; have g0 := Ad; have t0 := VW
 exact gs
theorem Tj : ∀ (l : List A1) (more : List A1), Ok (GQ l more) VG (dn AF Q5 [.t (.sl false (l.map A1.row)), .t (.sl false (more.map A1.row))]) := by
 intro l more
 rw [A9 AF (fn := Mz) rfl (xN rfl rfl _) (lB rfl)]
 have k0 := @Mz.eq_1; have f0 := @GQ.eq_1
 exact gs
theorem UC (l : List A1) (pre : ByteArray) : ∀ (i : Int), Ok (Bh l pre i) Nk (ev AF RI (.loop J8) [.lv 0, .th J9] (BZ (List.replicate 28 .dead) [(0, .t (.sl false (l.map A1.row))), (1, .t (.v (.string pre))), (6, .t (.v (.int .i64 i)))]) (Ba (List.replicate 28 []) [])) := by
 unfold Ok
 refine Bh.partial_correctness l pre _ ?_
 intro F ih i
 show Ok _ _ _
 have ih : ∀ (i : Int), Ok (F i) _ _ := ih
 rw [AZ]
 have k0 := @J8.eq_1; have k1 := @J9.eq_1; have t0 := ih
 exact gs
theorem Hm : ∀ (l : List A1) (pre : ByteArray), Ok (Bn l pre) Nk (dn AF FJ [.t (.sl false (l.map A1.row)), .t (.v (.string pre))]) := by
 intro l pre
 rw [A9 AF (fn := JA) rfl (xN rfl rfl _) (lB rfl)]
 have k0 := @JA.eq_1; have f0 := @Bn.eq_1; have t0 := UC
 exact gs
theorem d9 : ∀ (c : A2), Ok (Nf c) VH (dn AF VA [.lp [.sl false (c.xb.map (rK .u8)), .v (.int .i64 c.xi), .v (.int .i64 c.xh)] 0]) := by
 intro c
 rw [A9 AF (fn := N1) rfl (xN rfl rfl _) (lB rfl)]
 have k0 := @N1.eq_1; have f0 := @Nf.eq_1; have g0 := Ay
 exact gs
theorem Ri : ∀ (a : A4) (b : A4), Ok (FY a b) TI (dn AF Oj [.agg ((A4.row a).map .t), .agg ((A4.row b).map .t)]) := by
 intro a b
 rw [A9 AF (fn := L8) rfl (xN rfl rfl _) (lB rfl)]
 have k0 := @L8.eq_1; have f0 := @FY.eq_1
 exact gs
theorem VX : (∀ (l : List A0), Ok (Ng l) NF (dn AF Q9 [.t (.sl false (l.map (A0.row false)))])) ∧
  (∀ (l : List A0) (out : List (A0)) (i : Int), Ok (HF l out i) NF (ev AF VI (.loop MD) [.lv 0, .th ME] (BZ (List.replicate 23 .dead) [(0, .t (.sl false (l.map (A0.row false)))), (3, .ref (6, 0) out.length), (4, .t (.v (.int .i64 i)))]) (Ba (List.replicate 23 []) [(6, [.mem (out.map (A0.row true)) 0 false])]))) ∧
  (∀ (n : A0), Ok (CF n) On (dn AF D9 [.agg (((A0.row false) n).map .t)])) := by
 unfold Ok
 refine Ng.mutual_partial_correctness _ _ _ ?_ ?_ ?_
 ·intro F1 ih1 l
  show Ok _ _ _
  have ih1 : ∀ (l : List A0) (out : List (A0)) (i : Int), Ok (F1 l out i) _ _ := ih1
  rw [A9 AF (fn := My) rfl (xN rfl rfl _) (lB rfl)]
  have k0 := @My.eq_1; have t0 := ih1
  exact gs
 ·intro F1 F2 ih1 ih2 l out i
  show Ok _ _ _
  have ih2 : ∀ (n : A0), Ok (F2 n) _ _ := ih2
  have ih1 : ∀ (l : List A0) (out : List (A0)) (i : Int), Ok (F1 l out i) _ _ := ih1
  rw [AZ]
  have k0 := @MD.eq_1; have k1 := @ME.eq_1; have g0 := ih2; have t0 := ih1
  exact gs
 ·intro F0 ih0 n
  show Ok _ _ _
  have ih0 : ∀ (l : List A0), Ok (F0 l) _ _ := ih0
  rw [A9 AF (fn := Kw) rfl (xN rfl rfl _) (lB rfl)]
  have k0 := @Kw.eq_1; have g0 := ih0
  exact gs
theorem uD (l : List A0) : Ok (Ng l) NF (dn AF Q9 [.t (.sl false (l.map (A0.row false)))]) := VX.1 l
theorem Ga (n : A0) : Ok (CF n) On (dn AF D9 [.agg (((A0.row false) n).map .t)]) := VX.2.2 n
theorem Wr (l : List A0) : (∀ (out : List (A0)) (i : Int) (x8 : Bool) (x6 : A0), Ok (Dy l out i x8 x6) NG (ev AF QD KP [.th Gq, .lv 1, .th Gr, .hk [.clean [5, 6, 54, 57]], .th (.loop He), .lv 0, .th Hf] (BZ (List.replicate 60 .dead) [(0, .t (.sl false (l.map (A0.row false)))), (3, .ref (7, 0) out.length), (4, .t (.v (.int .i64 i))), (5, .ptr (5, 0) [] 0 0 1 0), (36, .t (.v (.bool x8)))]) (Ba (List.replicate 60 []) [(5, [.mem [[.v (.int .i64 x6.Kind), .v (.string x6.Pre), .v (.string x6.Local), .v (.string x6.Uri), .sl false (x6.Decls.map A1.row), .sl false (x6.Attrs.map A4.row), .sl false (x6.Kids.map (A0.row false)), .v (.string x6.Text)]] 0 false]), (7, [.mem (out.map (A0.row true)) 0 false])]))) ∧
  (∀ (out : List (A0)) (i : Int), Ok (Bi l out i) NG (ev AF QD (.loop He) [.lv 0, .th Hf] (BZ (List.replicate 60 .dead) [(0, .t (.sl false (l.map (A0.row false)))), (3, .ref (7, 0) out.length), (4, .t (.v (.int .i64 i)))]) (Ba (List.replicate 60 []) [(7, [.mem (out.map (A0.row true)) 0 false])]))) := by
 unfold Ok
 refine Dy.mutual_partial_correctness l _ _ ?_ ?_
 ·intro F1 ih1 out i x8 x6
  show Ok _ _ _
  have ih1 : ∀ (out : List (A0)) (i : Int), Ok (F1 out i) _ _ := ih1
  have k0 := @KP.eq_1; have k1 := @Gr.eq_1; have k2 := @Gq.eq_1; have g0 := Ga; have t0 := ih1
  exact gs
 ·intro F0 F1 ih0 ih1 out i
  show Ok _ _ _
  have ih1 : ∀ (out : List (A0)) (i : Int), Ok (F1 out i) _ _ := ih1
  have ih0 : ∀ (out : List (A0)) (i : Int) (x8 : Bool) (x6 : A0), Ok (F0 out i x8 x6) _ _ := ih0
  rw [AZ]
  have k0 := @He.eq_1; have k1 := @Gr.eq_1; have k2 := @Gq.eq_1; have k3 := @Hf.eq_1; have g0 := Ga; have t0 := ih1; have t1 := ih0
  exact gs
theorem Tk : ∀ (l : List A0), Ok (Fj l) NG (dn AF Q6 [.t (.sl false (l.map (A0.row false)))]) := by
 intro l
 rw [A9 AF (fn := N0) rfl (xN rfl rfl _) (lB rfl)]
 have k0 := @N0.eq_1; have f0 := @Fj.eq_1; have t0 := fun a0 => (Wr a0).2
 exact gs
theorem jz : (∀ (c : A2) (in1 : List A1) (most : Int), Ok (EI c in1 most) Dm (dn AF Lk [.lp [.sl false (c.xb.map (rK .u8)), .v (.int .i64 c.xi), .v (.int .i64 c.xh)] 0, .t (.sl false (in1.map A1.row)), .lp [.v (.int .i64 most)] 0])) ∧
  (∀ (in1 : List A1) (c1 : A2) (most : Int) (r : ByteArray × A2) (nDecls : List (A1)), Ok (Jf in1 c1 most r nDecls) Dm (ev AF Fc Nc [] (BZ (List.replicate 175 .dead) [(0, .ptr (0, 0) [] 0 0 1 0), (1, .t (.sl false (in1.map A1.row))), (2, .ptr (2, 0) [] 0 0 1 0), (6, .ptr (6, 0) [] 0 0 1 0), (7, .ptr (7, 0) [] 0 0 1 0)]) (Ba (List.replicate 175 []) [(0, [.mem [[.sl false (c1.xb.map (rK .u8)), .v (.int .i64 c1.xi), .v (.int .i64 c1.xh)]] 0 true]), (2, [.mem [[.v (.int .i64 most)]] 0 true]), (6, [.mem [[.v (.int .i64 0), .v (.string (⟨#[]⟩)), .v (.string (⟨#[]⟩)), .v (.string (⟨#[]⟩)), .sl true [], .sl true [], .sl true [], .v (.string (⟨#[]⟩))]] 0 false]), (7, [.mem [[.v (.int .i64 1), .v (.string (⟨#[]⟩)), .v (.string r.1), .v (.string (⟨#[]⟩)), .sl true (nDecls.map A1.row), .sl true [], .sl true [], .v (.string (⟨#[]⟩))]] 0 false])]))) ∧
  (∀ (r3 : List A1) (c2 : A2) (most : Int) (nPre : ByteArray) (r : ByteArray × A2) (nDecls : List (A1)), Ok (HG r3 c2 most nPre r nDecls) Dm (ev AF Fc MC [] (BZ (List.replicate 175 .dead) [(0, .ptr (0, 0) [] 0 0 1 0), (2, .ptr (2, 0) [] 0 0 1 0), (6, .ptr (6, 0) [] 0 0 1 0), (7, .ptr (7, 0) [] 0 0 1 0), (8, .t (.sl false (r3.map A1.row)))]) (Ba (List.replicate 175 []) [(0, [.mem [[.sl false (c2.xb.map (rK .u8)), .v (.int .i64 c2.xi), .v (.int .i64 c2.xh)]] 0 true]), (2, [.mem [[.v (.int .i64 most)]] 0 true]), (6, [.mem [[.v (.int .i64 0), .v (.string (⟨#[]⟩)), .v (.string (⟨#[]⟩)), .v (.string (⟨#[]⟩)), .sl true [], .sl true [], .sl true [], .v (.string (⟨#[]⟩))]] 0 false]), (7, [.mem [[.v (.int .i64 1), .v (.string nPre), .v (.string r.1), .v (.string (⟨#[]⟩)), .sl true (nDecls.map A1.row), .sl true [], .sl true [], .v (.string (⟨#[]⟩))]] 0 false])]))) ∧
  (∀ (r3 : List A1) (u : ByteArray) (c2 : A2) (most : Int) (nPre1 : ByteArray) (r : ByteArray × A2) (nDecls : List (A1)), Ok (HH r3 u c2 most nPre1 r nDecls) Dm (ev AF Fc MB [] (BZ (List.replicate 175 .dead) [(0, .ptr (0, 0) [] 0 0 1 0), (2, .ptr (2, 0) [] 0 0 1 0), (6, .ptr (6, 0) [] 0 0 1 0), (7, .ptr (7, 0) [] 0 0 1 0), (8, .t (.sl false (r3.map A1.row))), (9, .t (.v (.string u)))]) (Ba (List.replicate 175 []) [(0, [.mem [[.sl false (c2.xb.map (rK .u8)), .v (.int .i64 c2.xi), .v (.int .i64 c2.xh)]] 0 true]), (2, [.mem [[.v (.int .i64 most)]] 0 true]), (6, [.mem [[.v (.int .i64 0), .v (.string (⟨#[]⟩)), .v (.string (⟨#[]⟩)), .v (.string (⟨#[]⟩)), .sl true [], .sl true [], .sl true [], .v (.string (⟨#[]⟩))]] 0 false]), (7, [.mem [[.v (.int .i64 1), .v (.string nPre1), .v (.string r.1), .v (.string (⟨#[]⟩)), .sl true (nDecls.map A1.row), .sl true [], .sl true [], .v (.string (⟨#[]⟩))]] 0 false])]))) ∧
  (∀ (r3 : List A1) (i1 : Int) (c4 : A2) (most : Int) (nPre1 : ByteArray) (r : ByteArray × A2) (u : ByteArray) (nDecls : List (A1)) (nAttrs : List (A4)), Ok (Dc r3 i1 c4 most nPre1 r u nDecls nAttrs) Dm (ev AF Fc (.loop HY) [.lv 0, .th Hc] (BZ (List.replicate 175 .dead) [(0, .ptr (0, 0) [] 0 0 1 0), (2, .ptr (2, 0) [] 0 0 1 0), (6, .ptr (6, 0) [] 0 0 1 0), (7, .ptr (7, 0) [] 0 0 1 0), (8, .t (.sl false (r3.map A1.row))), (11, .t (.v (.int .i64 i1)))]) (Ba (List.replicate 175 []) [(0, [.mem [[.sl false (c4.xb.map (rK .u8)), .v (.int .i64 c4.xi), .v (.int .i64 c4.xh)]] 0 true]), (2, [.mem [[.v (.int .i64 most)]] 0 true]), (6, [.mem [[.v (.int .i64 0), .v (.string (⟨#[]⟩)), .v (.string (⟨#[]⟩)), .v (.string (⟨#[]⟩)), .sl true [], .sl true [], .sl true [], .v (.string (⟨#[]⟩))]] 0 false]), (7, [.mem [[.v (.int .i64 1), .v (.string nPre1), .v (.string r.1), .v (.string u), .sl true (nDecls.map A1.row), .sl true (nAttrs.map A4.row), .sl true [], .v (.string (⟨#[]⟩))]] 0 false])]))) ∧
  (∀ (r3 : List A1) (i2 : Int) (c5 : A2) (most2 : Int) (nPre1 : ByteArray) (r : ByteArray × A2) (u : ByteArray) (nDecls : List (A1)) (nAttrs : List (A4)) (nKids1 : List (A0)), Ok (CP r3 i2 c5 most2 nPre1 r u nDecls nAttrs nKids1) Dm (ev AF Fc (.loop HZ) [.lv 2, .th Ha] (BZ (List.replicate 175 .dead) [(0, .ptr (0, 0) [] 0 0 1 0), (2, .ptr (2, 0) [] 0 0 1 0), (6, .ptr (6, 0) [] 0 0 1 0), (7, .ptr (7, 0) [] 0 0 1 0), (8, .t (.sl false (r3.map A1.row))), (16, .t (.v (.int .i64 i2)))]) (Ba (List.replicate 175 []) [(0, [.mem [[.sl false (c5.xb.map (rK .u8)), .v (.int .i64 c5.xi), .v (.int .i64 c5.xh)]] 0 true]), (2, [.mem [[.v (.int .i64 most2)]] 0 true]), (6, [.mem [[.v (.int .i64 0), .v (.string (⟨#[]⟩)), .v (.string (⟨#[]⟩)), .v (.string (⟨#[]⟩)), .sl true [], .sl true [], .sl true [], .v (.string (⟨#[]⟩))]] 0 false]), (7, [.mem [[.v (.int .i64 1), .v (.string nPre1), .v (.string r.1), .v (.string u), .sl true (nDecls.map A1.row), .sl true (nAttrs.map A4.row), .sl true (nKids1.map (A0.row true)), .v (.string (⟨#[]⟩))]] 0 false])]))) ∧
  (∀ (r3 : List A1) (i2 : Int) (r42 : Int × A2) (x5 : Bool) (most2 : Int) (nPre1 : ByteArray) (r : ByteArray × A2) (u : ByteArray) (nDecls : List (A1)) (nAttrs : List (A4)) (nKids1 : List (A0)), Ok (HJ r3 i2 r42 x5 most2 nPre1 r u nDecls nAttrs nKids1) Dm (ev AF Fc M9 [.lv 4, .lv 3, .th MA, .hk [.clean [17, 129, 133, 134, 142, 145, 146, 153, 156, 157, 164, 167, 168]], .th (.loop HZ), .lv 2, .th Ha] (BZ (List.replicate 175 .dead) [(0, .ptr (0, 0) [] 0 0 1 0), (2, .ptr (2, 0) [] 0 0 1 0), (6, .ptr (6, 0) [] 0 0 1 0), (7, .ptr (7, 0) [] 0 0 1 0), (8, .t (.sl false (r3.map A1.row))), (16, .t (.v (.int .i64 i2))), (125, .t (.v (.int .i64 r42.1))), (136, .t (.v (.bool x5)))]) (Ba (List.replicate 175 []) [(0, [.mem [[.sl false (r42.2.xb.map (rK .u8)), .v (.int .i64 r42.2.xi), .v (.int .i64 r42.2.xh)]] 0 true]), (2, [.mem [[.v (.int .i64 (BE most2 1))]] 0 true]), (6, [.mem [[.v (.int .i64 0), .v (.string (⟨#[]⟩)), .v (.string (⟨#[]⟩)), .v (.string (⟨#[]⟩)), .sl true [], .sl true [], .sl true [], .v (.string (⟨#[]⟩))]] 0 false]), (7, [.mem [[.v (.int .i64 1), .v (.string nPre1), .v (.string r.1), .v (.string u), .sl true (nDecls.map A1.row), .sl true (nAttrs.map A4.row), .sl true (nKids1.map (A0.row true)), .v (.string (⟨#[]⟩))]] 0 false])]))) ∧
  (∀ (r3 : List A1) (i1 : Int) (r31 : ByteArray × A2) (most : Int) (nPre1 : ByteArray) (r : ByteArray × A2) (u : ByteArray) (nDecls : List (A1)) (nAttrs : List (A4)) (a1 : A4), Ok (Fu r3 i1 r31 most nPre1 r u nDecls nAttrs a1) Dm (ev AF Fc M7 [.lv 1, .th M8, .hk [.clean [12, 61, 67, 103, 104]], .th (.loop HY), .lv 0, .th Hc] (BZ (List.replicate 175 .dead) [(0, .ptr (0, 0) [] 0 0 1 0), (2, .ptr (2, 0) [] 0 0 1 0), (6, .ptr (6, 0) [] 0 0 1 0), (7, .ptr (7, 0) [] 0 0 1 0), (8, .t (.sl false (r3.map A1.row))), (11, .t (.v (.int .i64 i1))), (12, .ptr (12, 0) [] 0 0 1 0)]) (Ba (List.replicate 175 []) [(0, [.mem [[.sl false (r31.2.xb.map (rK .u8)), .v (.int .i64 r31.2.xi), .v (.int .i64 r31.2.xh)]] 0 true]), (2, [.mem [[.v (.int .i64 most)]] 0 true]), (6, [.mem [[.v (.int .i64 0), .v (.string (⟨#[]⟩)), .v (.string (⟨#[]⟩)), .v (.string (⟨#[]⟩)), .sl true [], .sl true [], .sl true [], .v (.string (⟨#[]⟩))]] 0 false]), (7, [.mem [[.v (.int .i64 1), .v (.string nPre1), .v (.string r.1), .v (.string u), .sl true (nDecls.map A1.row), .sl true (nAttrs.map A4.row), .sl true [], .v (.string (⟨#[]⟩))]] 0 false]), (12, [.mem [[.v (.string a1.Pre), .v (.string a1.Local), .v (.string a1.Uri), .v (.string a1.Val)]] 0 false])]))) := by
 unfold Ok
 refine EI.mutual_partial_correctness _ _ _ _ _ _ _ _ ?_ ?_ ?_ ?_ ?_ ?_ ?_ ?_
 ·intro F1 ih1 c in1 most
  show Ok _ _ _
  have ih1 : ∀ (in1 : List A1) (c1 : A2) (most : Int) (r : ByteArray × A2) (nDecls : List (A1)), Ok (F1 in1 c1 most r nDecls) _ _ := ih1
  rw [A9 AF (fn := OJ) rfl (xN rfl rfl _) (lB rfl)]
  have k0 := @OJ.eq_1; have g0 := Ay; have g1 := Bf; have g2 := Rh; have t0 := ih1
  exact gs
 ·intro F2 ih2 in1 c1 most r nDecls
  show Ok _ _ _
  have ih2 : ∀ (r3 : List A1) (c2 : A2) (most : Int) (nPre : ByteArray) (r : ByteArray × A2) (nDecls : List (A1)), Ok (F2 r3 c2 most nPre r nDecls) _ _ := ih2
  have k0 := @Nc.eq_1; have g0 := Tj; have g1 := Bf; have g2 := Ay; have t0 := ih2
  exact gs
 ·intro F3 ih3 r3 c2 most nPre r nDecls
  show Ok _ _ _
  have ih3 : ∀ (r3 : List A1) (u : ByteArray) (c2 : A2) (most : Int) (nPre1 : ByteArray) (r : ByteArray × A2) (nDecls : List (A1)), Ok (F3 r3 u c2 most nPre1 r nDecls) _ _ := ih3
  have k0 := @MC.eq_1; have g0 := Hm; have t0 := ih3
  exact gs
 ·intro F4 ih4 r3 u c2 most nPre1 r nDecls
  show Ok _ _ _
  have ih4 : ∀ (r3 : List A1) (i1 : Int) (c4 : A2) (most : Int) (nPre1 : ByteArray) (r : ByteArray × A2) (u : ByteArray) (nDecls : List (A1)) (nAttrs : List (A4)), Ok (F4 r3 i1 c4 most nPre1 r u nDecls nAttrs) _ _ := ih4
  have k0 := @MB.eq_1; have g0 := Ad; have t0 := ih4
  exact gs
 ·intro F5 F7 ih5 ih7 r3 i1 c4 most nPre1 r u nDecls nAttrs
  show Ok _ _ _
  have ih7 : ∀ (r3 : List A1) (i1 : Int) (r31 : ByteArray × A2) (most : Int) (nPre1 : ByteArray) (r : ByteArray × A2) (u : ByteArray) (nDecls : List (A1)) (nAttrs : List (A4)) (a1 : A4), Ok (F7 r3 i1 r31 most nPre1 r u nDecls nAttrs a1) _ _ := ih7
  have ih5 : ∀ (r3 : List A1) (i2 : Int) (c5 : A2) (most2 : Int) (nPre1 : ByteArray) (r : ByteArray × A2) (u : ByteArray) (nDecls : List (A1)) (nAttrs : List (A4)) (nKids1 : List (A0)), Ok (F5 r3 i2 c5 most2 nPre1 r u nDecls nAttrs nKids1) _ _ := ih5
  rw [AZ]
  have k0 := @HY.eq_1; have k1 := @Hc.eq_1; have g0 := Ay; have g1 := d9; have g2 := Hm; have g3 := Ad; have t0 := ih7; have t1 := ih5
  exact gs
 ·intro F6 ih6 r3 i2 c5 most2 nPre1 r u nDecls nAttrs nKids1
  show Ok _ _ _
  have ih6 : ∀ (r3 : List A1) (i2 : Int) (r42 : Int × A2) (x5 : Bool) (most2 : Int) (nPre1 : ByteArray) (r : ByteArray × A2) (u : ByteArray) (nDecls : List (A1)) (nAttrs : List (A4)) (nKids1 : List (A0)), Ok (F6 r3 i2 r42 x5 most2 nPre1 r u nDecls nAttrs nKids1) _ _ := ih6
  rw [AZ]
  have k0 := @HZ.eq_1; have k1 := @Ha.eq_1; have g0 := Ad; have g1 := Tk; have t0 := ih6
  exact gs
 ·intro F0 F5 ih0 ih5 r3 i2 r42 x5 most2 nPre1 r u nDecls nAttrs nKids1
  show Ok _ _ _
  have ih0 : ∀ (c : A2) (in1 : List A1) (most : Int), Ok (F0 c in1 most) _ _ := ih0
  have ih5 : ∀ (r3 : List A1) (i2 : Int) (c5 : A2) (most2 : Int) (nPre1 : ByteArray) (r : ByteArray × A2) (u : ByteArray) (nDecls : List (A1)) (nAttrs : List (A4)) (nKids1 : List (A0)), Ok (F5 r3 i2 c5 most2 nPre1 r u nDecls nAttrs nKids1) _ _ := ih5
  have k0 := @M9.eq_1; have k1 := @MA.eq_1; have g0 := Ay; have g1 := ih0; have t0 := ih5
  exact gs
 ·intro F4 ih4 r3 i1 r31 most nPre1 r u nDecls nAttrs a1
  show Ok _ _ _
  have ih4 : ∀ (r3 : List A1) (i1 : Int) (c4 : A2) (most : Int) (nPre1 : ByteArray) (r : ByteArray × A2) (u : ByteArray) (nDecls : List (A1)) (nAttrs : List (A4)), Ok (F4 r3 i1 c4 most nPre1 r u nDecls nAttrs) _ _ := ih4
  have k0 := @M7.eq_1; have k1 := @M8.eq_1; have g0 := Ri; have t0 := ih4
  exact gs
theorem VY (c : A2) (in1 : List A1) (most : Int) : Ok (EI c in1 most) Dm (dn AF Lk [.lp [.sl false (c.xb.map (rK .u8)), .v (.int .i64 c.xi), .v (.int .i64 c.xh)] 0, .t (.sl false (in1.map A1.row)), .lp [.v (.int .i64 most)] 0]) := jz.1 c in1 most
theorem Zw : (∀ (n : A0), Ok (C7 n) Jk (dn AF If [.agg (((A0.row false) n).map .t)])) ∧
  (∀ (k : Int) (i : Int) (n : A0), Ok (BF k i n) Jk (ev AF RJ (.loop Ix) [.lv 0, .th Iy] (BZ (List.replicate 25 .dead) [(1, .ptr (1, 0) [] 0 0 1 0), (3, .t (.v (.int .i64 k))), (4, .t (.v (.int .i64 i)))]) (Ba (List.replicate 25 []) [(1, [.mem [[.v (.int .i64 n.Kind), .v (.string n.Pre), .v (.string n.Local), .v (.string n.Uri), .sl false (n.Decls.map A1.row), .sl false (n.Attrs.map A4.row), .sl false (n.Kids.map (A0.row false)), .v (.string n.Text)]] 0 false])]))) := by
 unfold Ok
 refine C7.mutual_partial_correctness _ _ ?_ ?_
 ·intro F1 ih1 n
  show Ok _ _ _
  have ih1 : ∀ (k : Int) (i : Int) (n : A0), Ok (F1 k i n) _ _ := ih1
  rw [A9 AF (fn := Iz) rfl (xN rfl rfl _) (lB rfl)]
  have k0 := @Iz.eq_1; have t0 := ih1
  exact gs
 ·intro F0 F1 ih0 ih1 k i n
  show Ok _ _ _
  have ih0 : ∀ (n : A0), Ok (F0 n) _ _ := ih0
  have ih1 : ∀ (k : Int) (i : Int) (n : A0), Ok (F1 k i n) _ _ := ih1
  rw [AZ]
  have k0 := @Ix.eq_1; have k1 := @Iy.eq_1; have g0 := ih0; have t0 := ih1
  exact gs
theorem YG (n : A0) : Ok (C7 n) Jk (dn AF If [.agg (((A0.row false) n).map .t)]) := Zw.1 n
end TT
