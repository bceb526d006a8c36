import Derived.Test.YtaeegkjcjlnanaaGreatDoorTKK
import Derived.Test.YtaeegkjcjlnanaaGreatDoorTDefs
set_option maxHeartbeats 2000000
set_option linter.unusedVariables false
set_option linter.unusedSimpArgs false
set_option linter.defProp false
set_option maxRecDepth 100000
namespace TT
open Go
open Nat (reduceAdd reduceSub reduceMul reduceLeDiff reduceLT reduceEqDiff)
def Z7 (r : Bool) : Af := ⟨[.t (.v (.bool r))], []⟩
def m9 : Cx := ⟨1, [0], [.tmp 2]⟩
def Pg (r : A2) : Af := ⟨[.box [.sl false (r.xb.map (rK .u8)), .v (.int .i64 r.xi), .v (.int .i64 r.xh)]], []⟩
def Up : Cx := ⟨1, [0], [.tmp 2]⟩
def Sj (r : Int × A2) : Af := ⟨[.t (.v (.int .i64 r.1))], [some [[.sl false (r.2.xb.map (rK .u8)), .v (.int .i64 r.2.xi), .v (.int .i64 r.2.xh)]]]⟩
def bX : Cx := ⟨1, [1], [.tmp 2]⟩
def Ql (r : Int × A2) : Af := ⟨[.t (.v (.int .i64 r.1))], [some [[.sl false (r.2.xb.map (rK .u8)), .v (.int .i64 r.2.xi), .v (.int .i64 r.2.xh)]]]⟩
def Z8 : Cx := ⟨2, [1, 0], [.tmp 4]⟩
def Sk (r : Bool × A2) : Af := ⟨[.t (.v (.bool r.1))], [some [[.sl false (r.2.xb.map (rK .u8)), .v (.int .i64 r.2.xi), .v (.int .i64 r.2.xh)]]]⟩
def bY : Cx := ⟨2, [1, 0], [.tmp 4]⟩
def Uq (r : ByteArray × A2) : Af := ⟨[.t (.v (.string r.1))], [some [[.sl false (r.2.xb.map (rK .u8)), .v (.int .i64 r.2.xi), .v (.int .i64 r.2.xh)]]]⟩
def gI : Cx := ⟨2, [1, 0], [.tmp 4]⟩
def Ur (r : ByteArray × A2) : Af := ⟨[.t (.v (.string r.1))], [some [[.sl false (r.2.xb.map (rK .u8)), .v (.int .i64 r.2.xi), .v (.int .i64 r.2.xh)]]]⟩
def gJ : Cx := ⟨1, [1], [.tmp 2]⟩
def Sl (r : A1 × A2) : Af := ⟨[.agg [.v (.string r.1.Pre), .v (.string r.1.Uri)]], [some [[.sl false (r.2.xb.map (rK .u8)), .v (.int .i64 r.2.xi), .v (.int .i64 r.2.xh)]]]⟩
def bZ : Cx := ⟨1, [1], [.cell 2 2 true]⟩
def OP (r : List A1 × A2) : Af := ⟨[.t (.sl true (r.1.map A1.row))], [some [[.sl false (r.2.xb.map (rK .u8)), .v (.int .i64 r.2.xi), .v (.int .i64 r.2.xh)]]]⟩
def Sm : Cx := ⟨1, [1], [.tmp 2]⟩
def Us (r : List A1) : Af := ⟨[.t (.sl true (r.map A1.row))], []⟩
def gK : Cx := ⟨2, [0, 0], [.tmp 4]⟩
def NV (r : ByteArray × Bool) : Af := ⟨[.t (.v (.string r.1)), .t (.v (.bool r.2))], []⟩
def Qm : Cx := ⟨2, [0, 0], [.tmp 4, .tmp 5]⟩
def Ut (r : ByteArray × A2) : Af := ⟨[.t (.v (.string r.1))], [some [[.sl false (r.2.xb.map (rK .u8)), .v (.int .i64 r.2.xi), .v (.int .i64 r.2.xh)]]]⟩
def gL : Cx := ⟨1, [1], [.tmp 2]⟩
def Sp (r : Bool) : Af := ⟨[.t (.v (.bool r))], []⟩
def ba : Cx := ⟨2, [0, 0], [.tmp 4]⟩
def N3 (r : List A0) : Af := ⟨[.t (.sl true (r.map (A0.row true)))], []⟩
def Uu : Cx := ⟨1, [0], [.tmp 2]⟩
def OQ (r : A0) : Af := ⟨[.agg [.v (.int .i64 r.Kind), .v (.string r.Pre), .v (.string r.Local), .v (.string r.Uri), .sl true (r.Decls.map A1.row), .sl true (r.Attrs.map A3.row), .sl true (r.Kids.map (A0.row true)), .v (.string r.Text)]], []⟩
def bc : Cx := ⟨1, [0], [.cell 2 8 true]⟩
def N4 (r : List A0) : Af := ⟨[.t (.sl true (r.map (A0.row true)))], []⟩
def Ph : Cx := ⟨1, [0], [.tmp 2]⟩
def Db (r : A0 × A2 × Int) : Af := ⟨[.agg [.v (.int .i64 r.1.Kind), .v (.string r.1.Pre), .v (.string r.1.Local), .v (.string r.1.Uri), .sl true (r.1.Decls.map A1.row), .sl true (r.1.Attrs.map A3.row), .sl true (r.1.Kids.map (A0.row true)), .v (.string r.1.Text)]], [some [[.sl false (r.2.1.xb.map (rK .u8)), .v (.int .i64 r.2.1.xi), .v (.int .i64 r.2.1.xh)]], some [[.v (.int .i64 r.2.2)]]]⟩
def FW : Cx := ⟨3, [1, 0, 1], [.cell 6 8 true]⟩
def JT (r : Int) : Af := ⟨[.t (.v (.int .i64 r))], []⟩
def Qn : Cx := ⟨1, [0], [.tmp 2]⟩
def XE (r : Bool) : Af := ⟨[.t (.v (.bool r))], []⟩
def jS : Cx := ⟨3, [0, 0, 0], [.tmp 6]⟩
def Fl (r : Int × Int × Bool) : Af := ⟨[.t (.v (.int .i64 r.1)), .t (.v (.int .i64 r.2.1)), .t (.v (.bool r.2.2))], []⟩
def HA : Cx := ⟨2, [0, 0], [.tmp 4, .tmp 5, .tmp 6]⟩
def Lx (r : Bool) : Af := ⟨[.t (.v (.bool r))], []⟩
def Q0 : Cx := ⟨2, [0, 0], [.tmp 4]⟩
def Qo (r : Bool) : Af := ⟨[.t (.v (.bool r))], []⟩
def Z9 : Cx := ⟨1, [0], [.tmp 2]⟩
def Sq (r : Bool) : Af := ⟨[.t (.v (.bool r))], []⟩
def bd : Cx := ⟨1, [0], [.tmp 2]⟩
def NW (r : Bool) : Af := ⟨[.t (.v (.bool r))], []⟩
def Qp : Cx := ⟨1, [0], [.tmp 2]⟩
def Uv (r : Bool) : Af := ⟨[.t (.v (.bool r))], []⟩
def gM : Cx := ⟨1, [0], [.tmp 2]⟩
def Uw (r : Bool) : Af := ⟨[.t (.v (.bool r))], []⟩
def gN : Cx := ⟨1, [0], [.tmp 2]⟩
def Ss (r : Bool) : Af := ⟨[.t (.v (.bool r))], []⟩
def be : Cx := ⟨1, [0], [.tmp 2]⟩
def NX (r : Bool) : Af := ⟨[.t (.v (.bool r))], []⟩
def Qq : Cx := ⟨1, [0], [.tmp 2]⟩
def Su (r : Bool) : Af := ⟨[.t (.v (.bool r))], []⟩
def bf : Cx := ⟨1, [0], [.tmp 2]⟩
def OR (r : Bool) : Af := ⟨[.t (.v (.bool r))], []⟩
def Sv : Cx := ⟨1, [0], [.tmp 2]⟩
def NY (r : Bool) : Af := ⟨[.t (.v (.bool r))], []⟩
def Qr : Cx := ⟨1, [0], [.tmp 2]⟩
def Sw (r : Bool) : Af := ⟨[.t (.v (.bool r))], []⟩
def bg : Cx := ⟨1, [0], [.tmp 2]⟩
def Pj (r : Bool) : Af := ⟨[.t (.v (.bool r))], []⟩
def Ux : Cx := ⟨2, [0, 0], [.tmp 4]⟩
def Uy (r : Bool) : Af := ⟨[.t (.v (.bool r))], []⟩
def gO : Cx := ⟨1, [0], [.tmp 2]⟩
def Qs (r : Bool) : Af := ⟨[.t (.v (.bool r))], []⟩
def ZA : Cx := ⟨1, [0], [.tmp 2]⟩
def Ly (r : Bool) : Af := ⟨[.t (.v (.bool r))], []⟩
def Q1 : Cx := ⟨1, [0], [.tmp 2]⟩
def N5 (r : Bool) : Af := ⟨[.t (.v (.bool r))], []⟩
def Pk : Cx := ⟨1, [0], [.tmp 2]⟩
def HC (r : Bool) : Af := ⟨[.t (.v (.bool r))], []⟩
def OS : Cx := ⟨2, [0, 0], [.tmp 4]⟩
def L7 (r : Bool) : Af := ⟨[.t (.v (.bool r))], []⟩
def OT : Cx := ⟨1, [0], [.tmp 2]⟩
def Fm (r : Bool) : Af := ⟨[.t (.v (.bool r))], []⟩
def L8 : Cx := ⟨2, [0, 0], [.tmp 4]⟩
def Sx (r : Bool) : Af := ⟨[.t (.v (.bool r))], []⟩
def bh : Cx := ⟨1, [0], [.tmp 2]⟩
def L9 (r : A0 × A2) : Af := ⟨[.agg [.v (.int .i64 r.1.Kind), .v (.string r.1.Pre), .v (.string r.1.Local), .v (.string r.1.Uri), .sl true (r.1.Decls.map A1.row), .sl true (r.1.Attrs.map A3.row), .sl true (r.1.Kids.map (A0.row true)), .v (.string r.1.Text)]], [some [[.sl false (r.2.xb.map (rK .u8)), .v (.int .i64 r.2.xi), .v (.int .i64 r.2.xh)]]]⟩
def OU : Cx := ⟨1, [1], [.cell 2 8 true]⟩
def Uz (r : Int × A2) : Af := ⟨[.t (.v (.int .i64 r.1))], [some [[.sl false (r.2.xb.map (rK .u8)), .v (.int .i64 r.2.xi), .v (.int .i64 r.2.xh)]]]⟩
def gP : Cx := ⟨2, [1, 0], [.tmp 4]⟩
def Sy (r : ByteArray × A2) : Af := ⟨[.t (.v (.string r.1))], [some [[.sl false (r.2.xb.map (rK .u8)), .v (.int .i64 r.2.xi), .v (.int .i64 r.2.xh)]]]⟩
def bi : Cx := ⟨1, [1], [.tmp 2]⟩
def V0 (r : ByteArray × A2) : Af := ⟨[.t (.v (.string r.1))], [some [[.sl false (r.2.xb.map (rK .u8)), .v (.int .i64 r.2.xi), .v (.int .i64 r.2.xh)]]]⟩
def gQ : Cx := ⟨1, [1], [.tmp 2]⟩
def V1 (r : List A1 × A2) : Af := ⟨[.t (.sl true (r.1.map A1.row))], [some [[.sl false (r.2.xb.map (rK .u8)), .v (.int .i64 r.2.xi), .v (.int .i64 r.2.xh)]]]⟩
def gR : Cx := ⟨1, [1], [.tmp 2]⟩
def LA (r : ByteArray × A2) : Af := ⟨[.t (.v (.string r.1))], [some [[.sl false (r.2.xb.map (rK .u8)), .v (.int .i64 r.2.xi), .v (.int .i64 r.2.xh)]]]⟩
def OV : Cx := ⟨1, [1], [.tmp 2]⟩
def CJ (r : A0 × A2) : Af := ⟨[.agg [.v (.int .i64 r.1.Kind), .v (.string r.1.Pre), .v (.string r.1.Local), .v (.string r.1.Uri), .sl true (r.1.Decls.map A1.row), .sl true (r.1.Attrs.map A3.row), .sl false (r.1.Kids.map (A0.row false)), .v (.string r.1.Text)]], [some [[.sl false (r.2.xb.map (rK .u8)), .v (.int .i64 r.2.xi), .v (.int .i64 r.2.xh)]]]⟩
def Eb : Cx := ⟨1, [1], [.cell 2 8 true]⟩
def JU (r : List Int × A2) : Af := ⟨[.t (.sl true (r.1.map rI))], [some [[.sl false (r.2.xb.map (rK .u8)), .v (.int .i64 r.2.xi), .v (.int .i64 r.2.xh)]]]⟩
def NZ : Cx := ⟨2, [1, 0], [.tmp 4]⟩
def Sz (r : A8 × A2) : Af := ⟨[.agg [.v (.int .i64 r.1.Tre.Kind), .v (.string r.1.Tre.Pre), .v (.string r.1.Tre.Local), .v (.string r.1.Tre.Uri), .sl false (r.1.Tre.Decls.map A1.row), .sl false (r.1.Tre.Attrs.map A3.row), .sl false (r.1.Tre.Kids.map (A0.row false)), .v (.string r.1.Tre.Text), .sl true (r.1.Path.map rI)]], [some [[.sl false (r.2.xb.map (rK .u8)), .v (.int .i64 r.2.xi), .v (.int .i64 r.2.xh)]]]⟩
def bj : Cx := ⟨1, [1], [.cell 2 9 true]⟩
def Q2 (r : A8 × Int) : Af := ⟨[.agg [.v (.int .i64 r.1.Tre.Kind), .v (.string r.1.Tre.Pre), .v (.string r.1.Tre.Local), .v (.string r.1.Tre.Uri), .sl false (r.1.Tre.Decls.map A1.row), .sl false (r.1.Tre.Attrs.map A3.row), .sl false (r.1.Tre.Kids.map (A0.row false)), .v (.string r.1.Tre.Text), .sl true (r.1.Path.map rI)], .t (.v (.int .i64 r.2))], []⟩
def Xg : Cx := ⟨1, [0], [.cell 2 9 true, .tmp 3]⟩
def MC (r : List Int) : Af := ⟨[.t (.sl true (r.map rI))], []⟩
def Rz : Cx := ⟨1, [0], [.tmp 2]⟩
def T0 (r : List Int) : Af := ⟨[.t (.sl true (r.map rI))], []⟩
def bl : Cx := ⟨2, [0, 0], [.tmp 4]⟩
def MD (r : List A1) : Af := ⟨[.t (.sl true (r.map A1.row))], []⟩
def ME : Cx := ⟨1, [0], [.tmp 2]⟩
def MF (r : List A3) : Af := ⟨[.t (.sl true (r.map A3.row))], []⟩
def MG : Cx := ⟨1, [0], [.tmp 2]⟩
def KG (r : A0) : Af := ⟨[.agg [.v (.int .i64 r.Kind), .v (.string r.Pre), .v (.string r.Local), .v (.string r.Uri), .sl true (r.Decls.map A1.row), .sl true (r.Attrs.map A3.row), .sl true (r.Kids.map (A0.row true)), .v (.string r.Text)]], []⟩
def WT : Cx := ⟨1, [0], [.cell 2 8 true]⟩
def Fx (r : List A0) : Af := ⟨[.t (.sl true (r.map (A0.row true)))], []⟩
def O3 : Cx := ⟨1, [0], [.tmp 2]⟩
def Na (r : List Int) : Af := ⟨[.t (.sl true (r.map rI))], []⟩
def Nb : Cx := ⟨1, [0], [.tmp 2]⟩
def PC (r : A8) : Af := ⟨[.agg [.v (.int .i64 r.Tre.Kind), .v (.string r.Tre.Pre), .v (.string r.Tre.Local), .v (.string r.Tre.Uri), .sl true (r.Tre.Decls.map A1.row), .sl true (r.Tre.Attrs.map A3.row), .sl true (r.Tre.Kids.map (A0.row true)), .v (.string r.Tre.Text), .sl true (r.Path.map rI)]], []⟩
def WU : Cx := ⟨1, [0], [.cell 2 9 true]⟩
def dm (r : Bool) : Af := ⟨[.t (.v (.bool r))], []⟩
def om : Cx := ⟨3, [0, 0, 0], [.tmp 6]⟩
def OW (r : A0 × Bool) : Af := ⟨[.agg [.v (.int .i64 r.1.Kind), .v (.string r.1.Pre), .v (.string r.1.Local), .v (.string r.1.Uri), .sl true (r.1.Decls.map A1.row), .sl true (r.1.Attrs.map A3.row), .sl true (r.1.Kids.map (A0.row true)), .v (.string r.1.Text)], .t (.v (.bool r.2))], []⟩
def T3 : Cx := ⟨2, [0, 0], [.cell 4 8 true, .tmp 5]⟩
def JV (r : Int) : Af := ⟨[.t (.v (.int .i64 r))], []⟩
def Qt : Cx := ⟨1, [0], [.tmp 2]⟩
def CF (r : Int × Int) : Af := ⟨[.t (.v (.int .i32 r.1)), .t (.v (.int .i64 r.2))], []⟩
def I9 : Cx := ⟨1, [0], [.tmp 2, .tmp 3]⟩
def T4 (r : Int × Int × Bool) : Af := ⟨[.t (.v (.int .i64 r.1)), .t (.v (.int .i64 r.2.1)), .t (.v (.bool r.2.2))], []⟩
def bm : Cx := ⟨2, [0, 0], [.tmp 4, .tmp 5, .tmp 6]⟩
def Qu (r : Bool × Int) : Af := ⟨[.t (.v (.bool r.1))], [some [[.v (.int .i64 r.2)]]]⟩
def ZB : Cx := ⟨2, [0, 1], [.tmp 3]⟩
def CS (r : Int × Int) : Af := ⟨[.t (.v (.int .i64 r.1))], [some [[.v (.int .i64 r.2)]]]⟩
def EP : Cx := ⟨2, [0, 1], [.tmp 4]⟩
def Dc (r : Bool × Int) : Af := ⟨[.t (.v (.bool r.1))], [some [[.v (.int .i64 r.2)]]]⟩
def HD : Cx := ⟨2, [0, 1], [.tmp 4]⟩
def V2 (r : Bool) : Af := ⟨[.t (.v (.bool r))], []⟩
def gS : Cx := ⟨2, [0, 0], [.tmp 4]⟩
def T5 (r : Bool) : Af := ⟨[.t (.v (.bool r))], []⟩
def bn : Cx := ⟨1, [0], [.tmp 2]⟩
def Nc (r : Bool) : Af := ⟨[.t (.v (.bool r))], []⟩
def Qv : Cx := ⟨1, [0], [.tmp 2]⟩
def T6 (r : Bool) : Af := ⟨[.t (.v (.bool r))], []⟩
def bo : Cx := ⟨1, [0], [.tmp 2]⟩
def Hq (r : Bool) : Af := ⟨[.t (.v (.bool r))], []⟩
def Tk : Cx := ⟨2, [0, 0], [.tmp 4]⟩
def EQ (r : Bool) : Af := ⟨[.t (.v (.bool r))], []⟩
def JW : Cx := ⟨2, [0, 0], [.tmp 4]⟩
def MH (r : Bool) : Af := ⟨[.t (.v (.bool r))], []⟩
def S5 : Cx := ⟨2, [0, 0], [.tmp 4]⟩
def T7 (r : Bool) : Af := ⟨[.t (.v (.bool r))], []⟩
def bp : Cx := ⟨1, [0], [.tmp 2]⟩
def Qw (r : Bool) : Af := ⟨[.t (.v (.bool r))], []⟩
def ZC : Cx := ⟨1, [0], [.tmp 2]⟩
def T8 (r : Bool) : Af := ⟨[.t (.v (.bool r))], []⟩
def bq : Cx := ⟨1, [0], [.tmp 2]⟩
def Nd (r : Bool) : Af := ⟨[.t (.v (.bool r))], []⟩
def Qx : Cx := ⟨1, [0], [.tmp 2]⟩
def Gr (r : Bool) : Af := ⟨[.t (.v (.bool r))], []⟩
def S6 : Cx := ⟨2, [0, 0], [.tmp 4]⟩
def Qy (r : Bool) : Af := ⟨[.t (.v (.bool r))], []⟩
def ZD : Cx := ⟨1, [0], [.tmp 2]⟩
def T9 (r : Bool) : Af := ⟨[.t (.v (.bool r))], []⟩
def br : Cx := ⟨2, [0, 0], [.tmp 4]⟩
def OX (r : Bool) : Af := ⟨[.t (.v (.bool r))], []⟩
def TA : Cx := ⟨1, [0], [.tmp 2]⟩
def ER (r : Bool) : Af := ⟨[.t (.v (.bool r))], []⟩
def JX : Cx := ⟨2, [0, 0], [.tmp 4]⟩
def MI (r : Bool) : Af := ⟨[.t (.v (.bool r))], []⟩
def S7 : Cx := ⟨2, [0, 0], [.tmp 4]⟩
def V3 (r : Bool) : Af := ⟨[.t (.v (.bool r))], []⟩
def gT : Cx := ⟨1, [0], [.tmp 2]⟩
def V4 (r : Bool) : Af := ⟨[.t (.v (.bool r))], []⟩
def gU : Cx := ⟨2, [0, 0], [.tmp 4]⟩
def TB (r : Bool) : Af := ⟨[.t (.v (.bool r))], []⟩
def bt : Cx := ⟨1, [0], [.tmp 2]⟩
def Nf (r : Bool) : Af := ⟨[.t (.v (.bool r))], []⟩
def Qz : Cx := ⟨1, [0], [.tmp 2]⟩
def TC (r : Bool) : Af := ⟨[.t (.v (.bool r))], []⟩
def bu : Cx := ⟨1, [0], [.tmp 2]⟩
def JY (r : Int) : Af := ⟨[.t (.v (.int .i64 r))], []⟩
def V5 : Cx := ⟨2, [0, 0], [.tmp 4]⟩
def MJ (r : Int) : Af := ⟨[.t (.v (.int .i64 r))], []⟩
def S8 : Cx := ⟨2, [0, 0], [.tmp 4]⟩
def Ng (r : Bool) : Af := ⟨[.t (.v (.bool r))], []⟩
def R0 : Cx := ⟨1, [0], [.tmp 2]⟩
def JZ (r : Bool) : Af := ⟨[.t (.v (.bool r))], []⟩
def O4 : Cx := ⟨1, [0], [.tmp 2]⟩
def OY (r : Bool) : Af := ⟨[.t (.v (.bool r))], []⟩
def bv : Cx := ⟨2, [0, 0], [.tmp 4]⟩
def C1 (r : Bool × Int) : Af := ⟨[.t (.v (.bool r.1))], [some [[.v (.int .i64 r.2)]]]⟩
def HE : Cx := ⟨2, [0, 1], [.tmp 4]⟩
def BR (r : Int × Int) : Af := ⟨[.t (.v (.int .i64 r.1))], [some [[.v (.int .i64 r.2)]]]⟩
def ET : Cx := ⟨2, [0, 1], [.tmp 4]⟩
def Lz (r : Bool × Int) : Af := ⟨[.t (.v (.bool r.1))], [some [[.v (.int .i64 r.2)]]]⟩
def Xh : Cx := ⟨2, [0, 1], [.tmp 3]⟩
def OZ (r : Bool) : Af := ⟨[.t (.v (.bool r))], []⟩
def bw : Cx := ⟨2, [0, 0], [.tmp 4]⟩
def Oa (r : Int) : Af := ⟨[.t (.v (.int .i64 r))], []⟩
def TD : Cx := ⟨2, [0, 0], [.tmp 4]⟩
def Ob (r : Bool) : Af := ⟨[.t (.v (.bool r))], []⟩
def TE : Cx := ⟨1, [0], [.tmp 2]⟩
def TF (r : Bool) : Af := ⟨[.t (.v (.bool r))], []⟩
def bx : Cx := ⟨2, [0, 0], [.tmp 4]⟩
def TG (r : Bool) : Af := ⟨[.t (.v (.bool r))], []⟩
def bz : Cx := ⟨1, [0], [.tmp 2]⟩
def TH (r : Bool) : Af := ⟨[.t (.v (.bool r))], []⟩
def c9 : Cx := ⟨1, [0], [.tmp 2]⟩
def dp (r : A8 × Bool) : Af := ⟨[.agg [.v (.int .i64 r.1.Tre.Kind), .v (.string r.1.Tre.Pre), .v (.string r.1.Tre.Local), .v (.string r.1.Tre.Uri), .sl true (r.1.Tre.Decls.map A1.row), .sl true (r.1.Tre.Attrs.map A3.row), .sl true (r.1.Tre.Kids.map (A0.row true)), .v (.string r.1.Tre.Text), .sl true (r.1.Path.map rI)], .t (.v (.bool r.2))], []⟩
def oq : Cx := ⟨2, [0, 0], [.cell 4 9 true, .tmp 5]⟩
def XF (r : A8 × Bool) : Af := ⟨[.agg [.v (.int .i64 r.1.Tre.Kind), .v (.string r.1.Tre.Pre), .v (.string r.1.Tre.Local), .v (.string r.1.Tre.Uri), .sl true (r.1.Tre.Decls.map A1.row), .sl true (r.1.Tre.Attrs.map A3.row), .sl true (r.1.Tre.Kids.map (A0.row true)), .v (.string r.1.Tre.Text), .sl true (r.1.Path.map rI)], .t (.v (.bool r.2))], []⟩
def jT : Cx := ⟨2, [0, 0], [.cell 4 9 true, .tmp 5]⟩
def R1 (r : List Int) : Af := ⟨[.t (.sl true (r.map rI))], []⟩
def ZE : Cx := ⟨2, [0, 0], [.tmp 4]⟩
def R2 (r : A8) : Af := ⟨[.agg [.v (.int .i64 r.Tre.Kind), .v (.string r.Tre.Pre), .v (.string r.Tre.Local), .v (.string r.Tre.Uri), .sl true (r.Tre.Decls.map A1.row), .sl true (r.Tre.Attrs.map A3.row), .sl true (r.Tre.Kids.map (A0.row true)), .v (.string r.Tre.Text), .sl true (r.Path.map rI)]], []⟩
def ZF : Cx := ⟨1, [0], [.cell 2 9 true]⟩
def Oc (r : A0 × Bool) : Af := ⟨[.agg [.v (.int .i64 r.1.Kind), .v (.string r.1.Pre), .v (.string r.1.Local), .v (.string r.1.Uri), .sl true (r.1.Decls.map A1.row), .sl true (r.1.Attrs.map A3.row), .sl true (r.1.Kids.map (A0.row true)), .v (.string r.1.Text)], .t (.v (.bool r.2))], []⟩
def TI : Cx := ⟨2, [0, 0], [.cell 4 8 true, .tmp 5]⟩
def TJ (r : Bool) : Af := ⟨[.t (.v (.bool r))], []⟩
def cA : Cx := ⟨1, [0], [.tmp 2]⟩
def V6 (r : A8 × Bool) : Af := ⟨[.agg [.v (.int .i64 r.1.Tre.Kind), .v (.string r.1.Tre.Pre), .v (.string r.1.Tre.Local), .v (.string r.1.Tre.Uri), .sl true (r.1.Tre.Decls.map A1.row), .sl true (r.1.Tre.Attrs.map A3.row), .sl true (r.1.Tre.Kids.map (A0.row true)), .v (.string r.1.Tre.Text), .sl true (r.1.Path.map rI)], .t (.v (.bool r.2))], []⟩
def gV : Cx := ⟨2, [0, 0], [.cell 4 9 true, .tmp 5]⟩
def XG (r : A8 × Bool) : Af := ⟨[.agg [.v (.int .i64 r.1.Tre.Kind), .v (.string r.1.Tre.Pre), .v (.string r.1.Tre.Local), .v (.string r.1.Tre.Uri), .sl true (r.1.Tre.Decls.map A1.row), .sl true (r.1.Tre.Attrs.map A3.row), .sl true (r.1.Tre.Kids.map (A0.row true)), .v (.string r.1.Tre.Text), .sl true (r.1.Path.map rI)], .t (.v (.bool r.2))], []⟩
def jU : Cx := ⟨2, [0, 0], [.cell 4 9 true, .tmp 5]⟩
def V7 (r : A8 × Bool) : Af := ⟨[.agg [.v (.int .i64 r.1.Tre.Kind), .v (.string r.1.Tre.Pre), .v (.string r.1.Tre.Local), .v (.string r.1.Tre.Uri), .sl true (r.1.Tre.Decls.map A1.row), .sl true (r.1.Tre.Attrs.map A3.row), .sl true (r.1.Tre.Kids.map (A0.row true)), .v (.string r.1.Tre.Text), .sl true (r.1.Path.map rI)], .t (.v (.bool r.2))], []⟩
def gW : Cx := ⟨2, [0, 0], [.cell 4 9 true, .tmp 5]⟩
def V8 (r : A8 × Bool) : Af := ⟨[.agg [.v (.int .i64 r.1.Tre.Kind), .v (.string r.1.Tre.Pre), .v (.string r.1.Tre.Local), .v (.string r.1.Tre.Uri), .sl true (r.1.Tre.Decls.map A1.row), .sl true (r.1.Tre.Attrs.map A3.row), .sl true (r.1.Tre.Kids.map (A0.row true)), .v (.string r.1.Tre.Text), .sl true (r.1.Path.map rI)], .t (.v (.bool r.2))], []⟩
def gX : Cx := ⟨1, [0], [.cell 2 9 true, .tmp 3]⟩
def R3 (r : A8 × Bool) : Af := ⟨[.agg [.v (.int .i64 r.1.Tre.Kind), .v (.string r.1.Tre.Pre), .v (.string r.1.Tre.Local), .v (.string r.1.Tre.Uri), .sl true (r.1.Tre.Decls.map A1.row), .sl true (r.1.Tre.Attrs.map A3.row), .sl true (r.1.Tre.Kids.map (A0.row true)), .v (.string r.1.Tre.Text), .sl true (r.1.Path.map rI)], .t (.v (.bool r.2))], []⟩
def ZG : Cx := ⟨2, [0, 0], [.cell 4 9 true, .tmp 5]⟩
def V9 (r : A8 × Bool) : Af := ⟨[.agg [.v (.int .i64 r.1.Tre.Kind), .v (.string r.1.Tre.Pre), .v (.string r.1.Tre.Local), .v (.string r.1.Tre.Uri), .sl true (r.1.Tre.Decls.map A1.row), .sl true (r.1.Tre.Attrs.map A3.row), .sl true (r.1.Tre.Kids.map (A0.row true)), .v (.string r.1.Tre.Text), .sl true (r.1.Path.map rI)], .t (.v (.bool r.2))], []⟩
def gY : Cx := ⟨1, [0], [.cell 2 9 true, .tmp 3]⟩
def dq (r : A8 × Bool) : Af := ⟨[.agg [.v (.int .i64 r.1.Tre.Kind), .v (.string r.1.Tre.Pre), .v (.string r.1.Tre.Local), .v (.string r.1.Tre.Uri), .sl true (r.1.Tre.Decls.map A1.row), .sl true (r.1.Tre.Attrs.map A3.row), .sl true (r.1.Tre.Kids.map (A0.row true)), .v (.string r.1.Tre.Text), .sl true (r.1.Path.map rI)], .t (.v (.bool r.2))], []⟩
def ot : Cx := ⟨1, [0], [.cell 2 9 true, .tmp 3]⟩
def dt (r : A8 × Bool) : Af := ⟨[.agg [.v (.int .i64 r.1.Tre.Kind), .v (.string r.1.Tre.Pre), .v (.string r.1.Tre.Local), .v (.string r.1.Tre.Uri), .sl true (r.1.Tre.Decls.map A1.row), .sl true (r.1.Tre.Attrs.map A3.row), .sl true (r.1.Tre.Kids.map (A0.row true)), .v (.string r.1.Tre.Text), .sl true (r.1.Path.map rI)], .t (.v (.bool r.2))], []⟩
def oy : Cx := ⟨1, [0], [.cell 2 9 true, .tmp 3]⟩
def Gs (r : Bool) : Af := ⟨[.t (.v (.bool r))], []⟩
def MK : Cx := ⟨2, [0, 0], [.tmp 4]⟩
def Gu (r : Bool) : Af := ⟨[.t (.v (.bool r))], []⟩
def ML : Cx := ⟨2, [0, 0], [.tmp 4]⟩
def PD (r : Bool) : Af := ⟨[.t (.v (.bool r))], []⟩
def WV : Cx := ⟨2, [0, 0], [.tmp 4]⟩
def M0 (r : Bool) : Af := ⟨[.t (.v (.bool r))], []⟩
def Xi : Cx := ⟨2, [0, 0], [.tmp 4]⟩
def BS (r : Bool) : Af := ⟨[.t (.v (.bool r))], []⟩
def EU : Cx := ⟨3, [0, 0, 0], [.tmp 6]⟩
def M1 (r : Bool) : Af := ⟨[.t (.v (.bool r))], []⟩
def Q3 : Cx := ⟨2, [0, 0], [.tmp 4]⟩
def Q4 (r : Bool) : Af := ⟨[.t (.v (.bool r))], []⟩
def Xj : Cx := ⟨2, [0, 0], [.tmp 4]⟩
def VA (r : Int) : Af := ⟨[.t (.v (.int .i64 r))], []⟩
def gZ : Cx := ⟨1, [0], [.tmp 2]⟩
def Pm (r : Int) : Af := ⟨[.t (.v (.int .i64 r))], []⟩
def VB : Cx := ⟨1, [0], [.tmp 2]⟩
def XH (r : A8 × Bool) : Af := ⟨[.agg [.v (.int .i64 r.1.Tre.Kind), .v (.string r.1.Tre.Pre), .v (.string r.1.Tre.Local), .v (.string r.1.Tre.Uri), .sl true (r.1.Tre.Decls.map A1.row), .sl true (r.1.Tre.Attrs.map A3.row), .sl true (r.1.Tre.Kids.map (A0.row true)), .v (.string r.1.Tre.Text), .sl true (r.1.Path.map rI)], .t (.v (.bool r.2))], []⟩
def jV : Cx := ⟨1, [0], [.cell 2 9 true, .tmp 3]⟩
def Ja (r : Bool) : Af := ⟨[.t (.v (.bool r))], []⟩
def Nh : Cx := ⟨1, [0], [.tmp 2]⟩
theorem lT {α : Type} (l : List α) : ((AC l).toNat < l.length + 1) = True := by simp [AC]
theorem oz {α : Type} (l : List α) (x : α) : getI (l ++ [x]) (AC l) = some x := by simp [getI, AC]
theorem sk {α : Type} (l : List α) (x y : α) : (l ++ [x]).set (AC l).toNat y = l ++ [y] := by simp [AC]
theorem sm {α : Type} (l : List α) (x : α) : (l ++ [x])[(AC l).toNat]? = some x := by simp [AC]
theorem A0b {α : Type} (l : List α) : (0 ≤ AC l) = True := by simp [AC]
theorem A0c (o : Bool) (l : List A0) (i : Nat) (v0 : Int) (v1 : ByteArray) (v2 : ByteArray) (v3 : ByteArray) (v7 : ByteArray) (x : A0) : (l.map (A0.row o)).set i [.v (.int .i64 v0), .v (.string v1), .v (.string v2), .v (.string v3), .sl o [], .sl o [], .sl o [[.v (.int .i64 x.Kind), .v (.string x.Pre), .v (.string x.Local), .v (.string x.Uri), .sl o (x.Decls.map A1.row), .sl o (x.Attrs.map A3.row), .sl o (x.Kids.map (A0.row o)), .v (.string x.Text)]], .v (.string v7)] = (l.set i (A0.mk v0 v1 v2 v3 [] [] [x] v7)).map (A0.row o) := QE (A0.row o) l i (A0.mk v0 v1 v2 v3 [] [] [x] v7) _ (by simp only [A0.row_eq, List.map_cons, List.map_nil])
def ES := And.intro @lT <| And.intro @oz <| And.intro @sk <| And.intro @sm <| And.intro @A0b <| And.intro @A0c <| And.intro (@Z7.eq_1) <| And.intro (@m9.eq_1) <| And.intro (@Pg.eq_1) <| And.intro (@Up.eq_1) <| And.intro (@Sj.eq_1) <| And.intro (@bX.eq_1) <| And.intro (@Ql.eq_1) <| And.intro (@Z8.eq_1) <| And.intro (@Sk.eq_1) <| And.intro (@bY.eq_1) <| And.intro (@Uq.eq_1) <| And.intro (@gI.eq_1) <| And.intro (@Ur.eq_1) <| And.intro (@gJ.eq_1) <| And.intro (@Sl.eq_1) <| And.intro (@bZ.eq_1) <| And.intro (@OP.eq_1) <| And.intro (@Sm.eq_1) <| And.intro (@Us.eq_1) <| And.intro (@gK.eq_1) <| And.intro (@NV.eq_1) <| And.intro (@Qm.eq_1) <| And.intro (@Ut.eq_1) <| And.intro (@gL.eq_1) <| And.intro (@Sp.eq_1) <| And.intro (@ba.eq_1) <| And.intro (@N3.eq_1) <| And.intro (@Uu.eq_1) <| And.intro (@OQ.eq_1) <| And.intro (@bc.eq_1) <| And.intro (@N4.eq_1) <| And.intro (@Ph.eq_1) <| And.intro (@Db.eq_1) <| And.intro (@FW.eq_1) <| And.intro (@JT.eq_1) <| And.intro (@Qn.eq_1) <| And.intro (@XE.eq_1) <| And.intro (@jS.eq_1) <| And.intro (@Fl.eq_1) <| And.intro (@HA.eq_1) <| And.intro (@Lx.eq_1) <| And.intro (@Q0.eq_1) <| And.intro (@Qo.eq_1) <| And.intro (@Z9.eq_1) <| And.intro (@Sq.eq_1) <| And.intro (@bd.eq_1) <| And.intro (@NW.eq_1) <| And.intro (@Qp.eq_1) <| And.intro (@Uv.eq_1) <| And.intro (@gM.eq_1) <| And.intro (@Uw.eq_1) <| And.intro (@gN.eq_1) <| And.intro (@Ss.eq_1) <| And.intro (@be.eq_1) <| And.intro (@NX.eq_1) <| And.intro (@Qq.eq_1) <| And.intro (@Su.eq_1) <| And.intro (@bf.eq_1) <| And.intro (@OR.eq_1) <| And.intro (@Sv.eq_1) <| And.intro (@NY.eq_1) <| And.intro (@Qr.eq_1) <| And.intro (@Sw.eq_1) <| And.intro (@bg.eq_1) <| And.intro (@Pj.eq_1) <| And.intro (@Ux.eq_1) <| And.intro (@Uy.eq_1) <| And.intro (@gO.eq_1) <| And.intro (@Qs.eq_1) <| And.intro (@ZA.eq_1) <| And.intro (@Ly.eq_1) <| And.intro (@Q1.eq_1) <| And.intro (@N5.eq_1) <| And.intro (@Pk.eq_1) <| And.intro (@HC.eq_1) <| And.intro (@OS.eq_1) <| And.intro (@L7.eq_1) <| And.intro (@OT.eq_1) <| And.intro (@Fm.eq_1) <| And.intro (@L8.eq_1) <| And.intro (@Sx.eq_1) <| And.intro (@bh.eq_1) <| And.intro (@L9.eq_1) <| And.intro (@OU.eq_1) <| And.intro (@Uz.eq_1) <| And.intro (@gP.eq_1) <| And.intro (@Sy.eq_1) <| And.intro (@bi.eq_1) <| And.intro (@V0.eq_1) <| And.intro (@gQ.eq_1) <| And.intro (@V1.eq_1) <| And.intro (@gR.eq_1) <| And.intro (@LA.eq_1) <| And.intro (@OV.eq_1) <| And.intro (@CJ.eq_1) <| And.intro (@Eb.eq_1) <| And.intro (@JU.eq_1) <| And.intro (@NZ.eq_1) <| And.intro (@Sz.eq_1) <| And.intro (@bj.eq_1) <| And.intro (@Q2.eq_1) <| And.intro (@Xg.eq_1) <| And.intro (@MC.eq_1) <| And.intro (@Rz.eq_1) <| And.intro (@T0.eq_1) <| And.intro (@bl.eq_1) <| And.intro (@MD.eq_1) <| And.intro (@ME.eq_1) <| And.intro (@MF.eq_1) <| And.intro (@MG.eq_1) <| And.intro (@KG.eq_1) <| And.intro (@WT.eq_1) <| And.intro (@Fx.eq_1) <| And.intro (@O3.eq_1) <| And.intro (@Na.eq_1) <| And.intro (@Nb.eq_1) <| And.intro (@PC.eq_1) <| And.intro (@WU.eq_1) <| And.intro (@dm.eq_1) <| And.intro (@om.eq_1) <| And.intro (@OW.eq_1) <| And.intro (@T3.eq_1) <| And.intro (@JV.eq_1) <| And.intro (@Qt.eq_1) <| And.intro (@CF.eq_1) <| And.intro (@I9.eq_1) <| And.intro (@T4.eq_1) <| And.intro (@bm.eq_1) <| And.intro (@Qu.eq_1) <| And.intro (@ZB.eq_1) <| And.intro (@CS.eq_1) <| And.intro (@EP.eq_1) <| And.intro (@Dc.eq_1) <| And.intro (@HD.eq_1) <| And.intro (@V2.eq_1) <| And.intro (@gS.eq_1) <| And.intro (@T5.eq_1) <| And.intro (@bn.eq_1) <| And.intro (@Nc.eq_1) <| And.intro (@Qv.eq_1) <| And.intro (@T6.eq_1) <| And.intro (@bo.eq_1) <| And.intro (@Hq.eq_1) <| And.intro (@Tk.eq_1) <| And.intro (@EQ.eq_1) <| And.intro (@JW.eq_1) <| And.intro (@MH.eq_1) <| And.intro (@S5.eq_1) <| And.intro (@T7.eq_1) <| And.intro (@bp.eq_1) <| And.intro (@Qw.eq_1) <| And.intro (@ZC.eq_1) <| And.intro (@T8.eq_1) <| And.intro (@bq.eq_1) <| And.intro (@Nd.eq_1) <| And.intro (@Qx.eq_1) <| And.intro (@Gr.eq_1) <| And.intro (@S6.eq_1) <| And.intro (@Qy.eq_1) <| And.intro (@ZD.eq_1) <| And.intro (@T9.eq_1) <| And.intro (@br.eq_1) <| And.intro (@OX.eq_1) <| And.intro (@TA.eq_1) <| And.intro (@ER.eq_1) <| And.intro (@JX.eq_1) <| And.intro (@MI.eq_1) <| And.intro (@S7.eq_1) <| And.intro (@V3.eq_1) <| And.intro (@gT.eq_1) <| And.intro (@V4.eq_1) <| And.intro (@gU.eq_1) <| And.intro (@TB.eq_1) <| And.intro (@bt.eq_1) <| And.intro (@Nf.eq_1) <| And.intro (@Qz.eq_1) <| And.intro (@TC.eq_1) <| And.intro (@bu.eq_1) <| And.intro (@JY.eq_1) <| And.intro (@V5.eq_1) <| And.intro (@MJ.eq_1) <| And.intro (@S8.eq_1) <| And.intro (@Ng.eq_1) <| And.intro (@R0.eq_1) <| And.intro (@JZ.eq_1) <| And.intro (@O4.eq_1) <| And.intro (@OY.eq_1) <| And.intro (@bv.eq_1) <| And.intro (@C1.eq_1) <| And.intro (@HE.eq_1) <| And.intro (@BR.eq_1) <| And.intro (@ET.eq_1) <| And.intro (@Lz.eq_1) <| And.intro (@Xh.eq_1) <| And.intro (@OZ.eq_1) <| And.intro (@bw.eq_1) <| And.intro (@Oa.eq_1) <| And.intro (@TD.eq_1) <| And.intro (@Ob.eq_1) <| And.intro (@TE.eq_1) <| And.intro (@TF.eq_1) <| And.intro (@bx.eq_1) <| And.intro (@TG.eq_1) <| And.intro (@bz.eq_1) <| And.intro (@TH.eq_1) <| And.intro (@c9.eq_1) <| And.intro (@dp.eq_1) <| And.intro (@oq.eq_1) <| And.intro (@XF.eq_1) <| And.intro (@jT.eq_1) <| And.intro (@R1.eq_1) <| And.intro (@ZE.eq_1) <| And.intro (@R2.eq_1) <| And.intro (@ZF.eq_1) <| And.intro (@Oc.eq_1) <| And.intro (@TI.eq_1) <| And.intro (@TJ.eq_1) <| And.intro (@cA.eq_1) <| And.intro (@V6.eq_1) <| And.intro (@gV.eq_1) <| And.intro (@XG.eq_1) <| And.intro (@jU.eq_1) <| And.intro (@V7.eq_1) <| And.intro (@gW.eq_1) <| And.intro (@V8.eq_1) <| And.intro (@gX.eq_1) <| And.intro (@R3.eq_1) <| And.intro (@ZG.eq_1) <| And.intro (@V9.eq_1) <| And.intro (@gY.eq_1) <| And.intro (@dq.eq_1) <| And.intro (@ot.eq_1) <| And.intro (@dt.eq_1) <| And.intro (@oy.eq_1) <| And.intro (@Gs.eq_1) <| And.intro (@MK.eq_1) <| And.intro (@Gu.eq_1) <| And.intro (@ML.eq_1) <| And.intro (@PD.eq_1) <| And.intro (@WV.eq_1) <| And.intro (@M0.eq_1) <| And.intro (@Xi.eq_1) <| And.intro (@BS.eq_1) <| And.intro (@EU.eq_1) <| And.intro (@M1.eq_1) <| And.intro (@Q3.eq_1) <| And.intro (@Q4.eq_1) <| And.intro (@Xj.eq_1) <| And.intro (@VA.eq_1) <| And.intro (@gZ.eq_1) <| And.intro (@Pm.eq_1) <| And.intro (@VB.eq_1) <| And.intro (@XH.eq_1) <| And.intro (@jV.eq_1) <| And.intro (@Ja.eq_1) <| @Nh.eq_1
theorem xN {f : FuncId} (h : AG.cl.contains f = false) (h2 : (AG.lb.all fun p => p.1 != f) = true) (args : List Fy) : SL AG f args = none := qF h h2 args
theorem lB {a b : Nat} (h : Nat.ble a b = true) : a ≤ b := Nat.le_of_ble_eq_true h
theorem gs {p : Prop} (h : p := by
 try simp only [MB, RS, reduceAdd, reduceSub, reduceMul, reduceLeDiff, reduceLT, reduceEqDiff, Nat.reduceBEq, ↓reduceIte, reduceCtorEq] at g0
 try simp only [MB, RS, reduceAdd, reduceSub, reduceMul, reduceLeDiff, reduceLT, reduceEqDiff, Nat.reduceBEq, ↓reduceIte, reduceCtorEq] at g1
 try simp only [MB, RS, reduceAdd, reduceSub, reduceMul, reduceLeDiff, reduceLT, reduceEqDiff, Nat.reduceBEq, ↓reduceIte, reduceCtorEq] at g2
 try simp only [MB, RS, reduceAdd, reduceSub, reduceMul, reduceLeDiff, reduceLT, reduceEqDiff, Nat.reduceBEq, ↓reduceIte, reduceCtorEq] at g3
 try simp only [MB, RS, reduceAdd, reduceSub, reduceMul, reduceLeDiff, reduceLT, reduceEqDiff, Nat.reduceBEq, ↓reduceIte, reduceCtorEq] at g4
 try simp only [MB, RS, reduceAdd, reduceSub, reduceMul, reduceLeDiff, reduceLT, reduceEqDiff, Nat.reduceBEq, ↓reduceIte, reduceCtorEq] at g5
 try simp only [MB, RS, reduceAdd, reduceSub, reduceMul, reduceLeDiff, reduceLT, reduceEqDiff, Nat.reduceBEq, ↓reduceIte, reduceCtorEq] at g6
 try simp only [MB, RS, reduceAdd, reduceSub, reduceMul, reduceLeDiff, reduceLT, reduceEqDiff, Nat.reduceBEq, ↓reduceIte, reduceCtorEq] at g7
 try simp only [MB, RS, reduceAdd, reduceSub, reduceMul, reduceLeDiff, reduceLT, reduceEqDiff, Nat.reduceBEq, ↓reduceIte, reduceCtorEq] at g8
 try simp only [MB, RS, reduceAdd, reduceSub, reduceMul, reduceLeDiff, reduceLT, reduceEqDiff, Nat.reduceBEq, ↓reduceIte, reduceCtorEq] at g9
 try simp only [MB, RS, reduceAdd, reduceSub, reduceMul, reduceLeDiff, reduceLT, reduceEqDiff, Nat.reduceBEq, ↓reduceIte, reduceCtorEq] at g10
 try simp only [MB, RS, reduceAdd, reduceSub, reduceMul, reduceLeDiff, reduceLT, reduceEqDiff, Nat.reduceBEq, ↓reduceIte, reduceCtorEq] at g11
 try simp only [MB, RS, reduceAdd, reduceSub, reduceMul, reduceLeDiff, reduceLT, reduceEqDiff, Nat.reduceBEq, ↓reduceIte, reduceCtorEq] at g12
 simp only [MB, RS, ES, *, reduceAdd, reduceSub, reduceMul, reduceLeDiff, reduceLT, reduceEqDiff, Nat.reduceBEq, ↓reduceIte, reduceCtorEq]
 try clear k0
 try clear f0
 repeat' first
  | with_reducible exact uU
  | ((with_reducible refine et ?_); first | rfl | simp only [MB, RS, ES])
  | ((with_reducible first
   | refine my (t0 ..) ?_
   | refine my (t1 ..) ?_); first | rfl | (simp only [MB, RS, ES, reduceAdd, reduceSub, reduceMul, reduceLeDiff, reduceLT, reduceEqDiff, Nat.reduceBEq, ↓reduceIte, reduceCtorEq] <;> rfl) | (simp only [MB, RS, ES, *, reduceAdd, reduceSub, reduceMul, reduceLeDiff, reduceLT, reduceEqDiff, Nat.reduceBEq, ↓reduceIte, reduceCtorEq] <;> rfl))
  | ((first
   | (with_reducible first
    | refine A0F (fun h => ?_) (fun h => ?_)
    | refine zU fun a h => ?_
    | refine BH (g0 ..) fun v => ?_
    | refine BH (g1 ..) fun v => ?_
    | refine BH (g2 ..) fun v => ?_
    | refine BH (g3 ..) fun v => ?_
    | refine BH (g4 ..) fun v => ?_
    | refine BH (g5 ..) fun v => ?_
    | refine BH (g6 ..) fun v => ?_
    | refine BH (g7 ..) fun v => ?_
    | refine BH (g8 ..) fun v => ?_
    | refine BH (g9 ..) fun v => ?_
    | refine BH (g10 ..) fun v => ?_
    | refine BH (g11 ..) fun v => ?_
    | refine BH (g12 ..) fun v => ?_
    | refine BH g0 fun v => ?_
    | refine BH g1 fun v => ?_
    | refine BH g2 fun v => ?_
    | refine Dx (p := bP _ _) fun a h => ?_
    | refine Dx (p := kv _) fun a h => ?_
    | refine Dx (p := room _ _) fun a h => ?_
    | refine Dx (p := mkN _ _) fun a h => ?_
    | refine Dx (p := PV _ _ _) fun a h => ?_
    | refine Dx (p := slL _ _ _) fun a h => ?_
    | refine Dx (p := PU _ _) fun a h => ?_
    | refine Dx (p := yC _ _) fun a h => ?_
    | refine Dx (p := ko _ _) fun a h => ?_
    | refine Dx (p := yD _ _ _) fun a h => ?_
    | refine Dx (p := A0o _ _ _) fun a h => ?_
    | refine Dx (p := yE _ _ _) fun a h => ?_
    | refine Dx (p := kp _ _ _) fun a h => ?_
    | refine wD fun h => ?_)
   | refine BH (g0 ..) fun v => ?_
   | refine BH (g1 ..) fun v => ?_
   | refine BH (g2 ..) fun v => ?_
   | refine BH (g3 ..) fun v => ?_
   | refine BH (g4 ..) fun v => ?_
   | refine BH (g5 ..) fun v => ?_
   | refine BH (g6 ..) fun v => ?_
   | refine BH (g7 ..) fun v => ?_
   | refine BH (g8 ..) fun v => ?_
   | refine BH (g9 ..) fun v => ?_
   | refine BH (g10 ..) fun v => ?_
   | refine BH (g11 ..) fun v => ?_
   | refine BH (g12 ..) fun v => ?_
   | refine B6 (g0 _) (by simp only [MB, RS, List.map_cons, List.map_nil]) fun v => ?_
   | refine B6 (g0 _ _) (by simp only [MB, RS, List.map_cons, List.map_nil]) fun v => ?_
   | refine B6 (g1 _) (by simp only [MB, RS, List.map_cons, List.map_nil]) fun v => ?_
   | refine B6 (g1 _ _) (by simp only [MB, RS, List.map_cons, List.map_nil]) fun v => ?_
   | refine B6 (g2 _) (by simp only [MB, RS, List.map_cons, List.map_nil]) fun v => ?_
   | refine B6 (g2 _ _) (by simp only [MB, RS, List.map_cons, List.map_nil]) fun v => ?_
   | refine B6 (g3 _) (by simp only [MB, RS, List.map_cons, List.map_nil]) fun v => ?_
   | refine B6 (g3 _ _) (by simp only [MB, RS, List.map_cons, List.map_nil]) fun v => ?_
   | refine B6 (g4 _) (by simp only [MB, RS, List.map_cons, List.map_nil]) fun v => ?_
   | refine B6 (g4 _ _) (by simp only [MB, RS, List.map_cons, List.map_nil]) fun v => ?_
   | refine B6 (g5 _) (by simp only [MB, RS, List.map_cons, List.map_nil]) fun v => ?_
   | refine B6 (g5 _ _) (by simp only [MB, RS, List.map_cons, List.map_nil]) fun v => ?_
   | refine B6 (g6 _) (by simp only [MB, RS, List.map_cons, List.map_nil]) fun v => ?_
   | refine B6 (g6 _ _) (by simp only [MB, RS, List.map_cons, List.map_nil]) fun v => ?_
   | refine B6 (g7 _) (by simp only [MB, RS, List.map_cons, List.map_nil]) fun v => ?_
   | refine B6 (g7 _ _) (by simp only [MB, RS, List.map_cons, List.map_nil]) fun v => ?_
   | refine B6 (g8 _) (by simp only [MB, RS, List.map_cons, List.map_nil]) fun v => ?_
   | refine B6 (g8 _ _) (by simp only [MB, RS, List.map_cons, List.map_nil]) fun v => ?_
   | refine B6 (g9 _) (by simp only [MB, RS, List.map_cons, List.map_nil]) fun v => ?_
   | refine B6 (g9 _ _) (by simp only [MB, RS, List.map_cons, List.map_nil]) fun v => ?_
   | refine B6 (g10 _) (by simp only [MB, RS, List.map_cons, List.map_nil]) fun v => ?_
   | refine B6 (g10 _ _) (by simp only [MB, RS, List.map_cons, List.map_nil]) fun v => ?_
   | refine B6 (g11 _) (by simp only [MB, RS, List.map_cons, List.map_nil]) fun v => ?_
   | refine B6 (g11 _ _) (by simp only [MB, RS, List.map_cons, List.map_nil]) fun v => ?_
   | refine B6 (g12 _) (by simp only [MB, RS, List.map_cons, List.map_nil]) fun v => ?_
   | refine B6 (g12 _ _) (by simp only [MB, RS, List.map_cons, List.map_nil]) fun v => ?_) <;> simp only [MB, RS, ES, *, reduceAdd, reduceSub, reduceMul, reduceLeDiff, reduceLT, reduceEqDiff, Nat.reduceBEq, ↓reduceIte, reduceCtorEq])) : p := h
theorem jW : ∀ (code : List Int), Ok (Un code) Z7 (dn AG Z6 [.t (.sl false (code.map (rK .u8)))]) := by
 intro code
 rw [A9 AG (fn := Pf) rfl (xN rfl rfl _) (lB rfl)]
 have k0 := @Pf.eq_1; have f0 := @Un.eq_1
 exact gs
theorem WW (code : List Int) : ∀ (h : Int) (i : Int), Ok (EY code h i) Pg (ev AG Up (.loop Lc) [.lv 0, .th Ld] (Ba (List.replicate 32 .dead) [(0, .t (.sl false (code.map (rK .u8)))), (3, .t (.v (.int .i64 h))), (4, .t (.v (.int .i64 i)))]) (Bb (List.replicate 32 []) [])) := by
 unfold Ok
 refine EY.partial_correctness code _ ?_
 intro F ih h i
 show Ok _ _ _
 have ih : ∀ (h : Int) (i : Int), Ok (F h i) _ _ := ih
 rw [AX]
 have k0 := @Lc.eq_1; have k1 := @Ld.eq_1; have t0 := ih
 exact gs
theorem cC : ∀ (code : List Int), Ok (NO code) Pg (dn AG Uh [.t (.sl false (code.map (rK .u8)))]) := by
 intro code
 rw [A9 AG (fn := Mf) rfl (xN rfl rfl _) (lB rfl)]
 have k0 := @Mf.eq_1; have f0 := @NO.eq_1; have t0 := WW
 exact gs
theorem ZH : ∀ (c : A2), Ok (FM c) Sj (dn AG H1 [.lp [.sl false (c.xb.map (rK .u8)), .v (.int .i64 c.xi), .v (.int .i64 c.xh)] 0]) := by
 intro c
 rw [A9 AG (fn := Kf) rfl (xN rfl rfl _) (lB rfl)]
 have k0 := @Kf.eq_1; have f0 := @FM.eq_1
 exact gs
theorem Ar : ∀ (c : A2) (n : Int), Ok (At c n) Ql (dn AG Aw [.lp [.sl false (c.xb.map (rK .u8)), .v (.int .i64 c.xi), .v (.int .i64 c.xh)] 0, .t (.v (.int .i64 n))]) := by
 intro c n
 rw [A9 AG (fn := Ic) rfl (xN rfl rfl _) (lB rfl)]
 have k0 := @Ic.eq_1; have f0 := @At.eq_1; have g0 := ZH
 exact gs
theorem C2 : ∀ (c : A2) (n : Int), Ok (Bv c n) Sk (dn AG By [.lp [.sl false (c.xb.map (rK .u8)), .v (.int .i64 c.xi), .v (.int .i64 c.xh)] 0, .t (.v (.int .i64 n))]) := by
 intro c n
 rw [A9 AG (fn := KZ) rfl (xN rfl rfl _) (lB rfl)]
 have k0 := @KZ.eq_1; have f0 := @Bv.eq_1; have g0 := Ar
 exact gs
theorem BM : ∀ (c : A2) (list : List ByteArray), Ok (AW c list) Uq (dn AG AL [.lp [.sl false (c.xb.map (rK .u8)), .v (.int .i64 c.xi), .v (.int .i64 c.xh)] 0, .t (.sl false (list.map rS))]) := by
 intro c list
 rw [A9 AG (fn := Mj) rfl (xN rfl rfl _) (lB rfl)]
 have k0 := @Mj.eq_1; have f0 := @AW.eq_1; have g0 := Ar
 exact gs
theorem Od : ∀ (c : A2), Ok (KF c) Ur (dn AG Pa [.lp [.sl false (c.xb.map (rK .u8)), .v (.int .i64 c.xi), .v (.int .i64 c.xh)] 0]) := by
 intro c
 rw [A9 AG (fn := Ml) rfl (xN rfl rfl _) (lB rfl)]
 have k0 := @Ml.eq_1; have f0 := @KF.eq_1; have g0 := BM
 exact gs
theorem R4 : ∀ (c : A2), Ok (GB c) Sl (dn AG KO [.lp [.sl false (c.xb.map (rK .u8)), .v (.int .i64 c.xi), .v (.int .i64 c.xh)] 0]) := by
 intro c
 rw [A9 AG (fn := Kn) rfl (xN rfl rfl _) (lB rfl)]
 have k0 := @Kn.eq_1; have f0 := @GB.eq_1; have g0 := BM; have g1 := Od; have g2 := C2
 exact gs
theorem VC : ∀ (l : List (A1)) (i : Int) (c1 : A2), Ok (Bc l i c1) OP (ev AG Sm (.loop K8) [.lv 0, .th K9] (Ba (List.replicate 35 .dead) [(0, .ptr (0, 0) [] 0 0 1 0), (3, .ref (6, 0) l.length), (4, .t (.v (.int .i64 i)))]) (Bb (List.replicate 35 []) [(0, [.mem [[.sl false (c1.xb.map (rK .u8)), .v (.int .i64 c1.xi), .v (.int .i64 c1.xh)]] 0 true]), (6, [.mem (l.map A1.row) 0 false])])) := by
 unfold Ok
 refine Bc.partial_correctness _ ?_
 intro F ih l i c1
 show Ok _ _ _
 have ih : ∀ (l : List (A1)) (i : Int) (c1 : A2), Ok (F l i c1) _ _ := ih
 rw [AX]
 have k0 := @K8.eq_1; have k1 := @K9.eq_1; have g0 := R4; have t0 := ih
 exact gs
theorem R5 : ∀ (c : A2), Ok (I1 c) OP (dn AG OM [.lp [.sl false (c.xb.map (rK .u8)), .v (.int .i64 c.xi), .v (.int .i64 c.xh)] 0]) := by
 intro c
 rw [A9 AG (fn := Kk) rfl (xN rfl rfl _) (lB rfl)]
 have k0 := @Kk.eq_1; have f0 := @I1.eq_1; have g0 := Ar; have t0 := VC
 exact gs
theorem TK : ∀ (l : List A1) (more : List A1), Ok (GC l more) Us (dn AG PZ [.t (.sl false (l.map A1.row)), .t (.sl false (more.map A1.row))]) := by
 intro l more
 rw [A9 AG (fn := Mo) rfl (xN rfl rfl _) (lB rfl)]
 have k0 := @Mo.eq_1; have f0 := @GC.eq_1
 exact gs
theorem Tl (l : List A1) (pre : ByteArray) : ∀ (i : Int), Ok (Be l pre i) NV (ev AG Qm (.loop Iu) [.lv 0, .th Iv] (Ba (List.replicate 28 .dead) [(0, .t (.sl false (l.map A1.row))), (1, .t (.v (.string pre))), (6, .t (.v (.int .i64 i)))]) (Bb (List.replicate 28 []) [])) := by
 unfold Ok
 refine Be.partial_correctness l pre _ ?_
 intro F ih i
 show Ok _ _ _
 have ih : ∀ (i : Int), Ok (F i) _ _ := ih
 rw [AX]
 have k0 := @Iu.eq_1; have k1 := @Iv.eq_1; have t0 := ih
 exact gs
theorem Ha : ∀ (l : List A1) (pre : ByteArray), Ok (Bi l pre) NV (dn AG FB [.t (.sl false (l.map A1.row)), .t (.v (.string pre))]) := by
 intro l pre
 rw [A9 AG (fn := Iw) rfl (xN rfl rfl _) (lB rfl)]
 have k0 := @Iw.eq_1; have f0 := @Bi.eq_1; have t0 := Tl
 exact gs
theorem cE : ∀ (c : A2), Ok (NP c) Ut (dn AG Ul [.lp [.sl false (c.xb.map (rK .u8)), .v (.int .i64 c.xi), .v (.int .i64 c.xh)] 0]) := by
 intro c
 rw [A9 AG (fn := Mq) rfl (xN rfl rfl _) (lB rfl)]
 have k0 := @Mq.eq_1; have f0 := @NP.eq_1; have g0 := BM
 exact gs
theorem R6 : ∀ (a : A3) (b : A3), Ok (FN a b) Sp (dn AG OO [.agg ((A3.row a).map .t), .agg ((A3.row b).map .t)]) := by
 intro a b
 rw [A9 AG (fn := Kl) rfl (xN rfl rfl _) (lB rfl)]
 have k0 := @Kl.eq_1; have f0 := @FN.eq_1
 exact gs
theorem VD : (∀ (l : List A0), Ok (NQ l) N3 (dn AG Pc [.t (.sl false (l.map (A0.row false)))])) ∧
  (∀ (l : List A0) (out : List (A0)) (i : Int), Ok (H4 l out i) N3 (ev AG Uu (.loop Ls) [.lv 0, .th Lt] (Ba (List.replicate 23 .dead) [(0, .t (.sl false (l.map (A0.row false)))), (3, .ref (6, 0) out.length), (4, .t (.v (.int .i64 i)))]) (Bb (List.replicate 23 []) [(6, [.mem (out.map (A0.row true)) 0 false])]))) ∧
  (∀ (n : A0), Ok (DS n) OQ (dn AG Fj [.agg (((A0.row false) n).map .t)])) := by
 unfold Ok
 refine NQ.mutual_partial_correctness _ _ _ ?_ ?_ ?_
 ·intro F1 ih1 l
  show Ok _ _ _
  have ih1 : ∀ (l : List A0) (out : List (A0)) (i : Int), Ok (F1 l out i) _ _ := ih1
  rw [A9 AG (fn := Mn) rfl (xN rfl rfl _) (lB rfl)]
  have k0 := @Mn.eq_1; have t0 := ih1
  exact gs
 ·intro F1 F2 ih1 ih2 l out i
  show Ok _ _ _
  have ih2 : ∀ (n : A0), Ok (F2 n) _ _ := ih2
  have ih1 : ∀ (l : List A0) (out : List (A0)) (i : Int), Ok (F1 l out i) _ _ := ih1
  rw [AX]
  have k0 := @Ls.eq_1; have k1 := @Lt.eq_1; have g0 := ih2; have t0 := ih1
  exact gs
 ·intro F0 ih0 n
  show Ok _ _ _
  have ih0 : ∀ (l : List A0), Ok (F0 l) _ _ := ih0
  rw [A9 AG (fn := Ka) rfl (xN rfl rfl _) (lB rfl)]
  have k0 := @Ka.eq_1; have g0 := ih0
  exact gs
theorem td (l : List A0) : Ok (NQ l) N3 (dn AG Pc [.t (.sl false (l.map (A0.row false)))]) := VD.1 l
theorem Jb (n : A0) : Ok (DS n) OQ (dn AG Fj [.agg (((A0.row false) n).map .t)]) := VD.2.2 n
theorem WX (l : List A0) : (∀ (out : List (A0)) (i : Int) (x8 : Bool) (x6 : A0), Ok (Do l out i x8 x6) N4 (ev AG Ph KA [.th Gb, .lv 1, .th Gd, .hk [.clean [5, 6, 54, 57]], .th (.loop HQ), .lv 0, .th HR] (Ba (List.replicate 60 .dead) [(0, .t (.sl false (l.map (A0.row false)))), (3, .ref (7, 0) out.length), (4, .t (.v (.int .i64 i))), (5, .ptr (5, 0) [] 0 0 1 0), (36, .t (.v (.bool x8)))]) (Bb (List.replicate 60 []) [(5, [.mem [[.v (.int .i64 x6.Kind), .v (.string x6.Pre), .v (.string x6.Local), .v (.string x6.Uri), .sl false (x6.Decls.map A1.row), .sl false (x6.Attrs.map A3.row), .sl false (x6.Kids.map (A0.row false)), .v (.string x6.Text)]] 0 false]), (7, [.mem (out.map (A0.row true)) 0 false])]))) ∧
  (∀ (out : List (A0)) (i : Int), Ok (Bf l out i) N4 (ev AG Ph (.loop HQ) [.lv 0, .th HR] (Ba (List.replicate 60 .dead) [(0, .t (.sl false (l.map (A0.row false)))), (3, .ref (7, 0) out.length), (4, .t (.v (.int .i64 i)))]) (Bb (List.replicate 60 []) [(7, [.mem (out.map (A0.row true)) 0 false])]))) := by
 unfold Ok
 refine Do.mutual_partial_correctness l _ _ ?_ ?_
 ·intro F1 ih1 out i x8 x6
  show Ok _ _ _
  have ih1 : ∀ (out : List (A0)) (i : Int), Ok (F1 out i) _ _ := ih1
  have k0 := @KA.eq_1; have k1 := @Gd.eq_1; have k2 := @Gb.eq_1; have g0 := Jb; have t0 := ih1
  exact gs
 ·intro F0 F1 ih0 ih1 out i
  show Ok _ _ _
  have ih1 : ∀ (out : List (A0)) (i : Int), Ok (F1 out i) _ _ := ih1
  have ih0 : ∀ (out : List (A0)) (i : Int) (x8 : Bool) (x6 : A0), Ok (F0 out i x8 x6) _ _ := ih0
  rw [AX]
  have k0 := @HQ.eq_1; have k1 := @Gd.eq_1; have k2 := @Gb.eq_1; have k3 := @HR.eq_1; have g0 := Jb; have t0 := ih1; have t1 := ih0
  exact gs
theorem cF : ∀ (l : List A0), Ok (Hl l) N4 (dn AG Uf [.t (.sl false (l.map (A0.row false)))]) := by
 intro l
 rw [A9 AG (fn := Mp) rfl (xN rfl rfl _) (lB rfl)]
 have k0 := @Mp.eq_1; have f0 := @Hl.eq_1; have t0 := fun a0 => (WX a0).2
 exact gs
theorem jX : (∀ (c : A2) (in1 : List A1) (most : Int), Ok (FG c in1 most) Db (dn AG Nr [.lp [.sl false (c.xb.map (rK .u8)), .v (.int .i64 c.xi), .v (.int .i64 c.xh)] 0, .t (.sl false (in1.map A1.row)), .lp [.v (.int .i64 most)] 0])) ∧
  (∀ (in1 : List A1) (c1 : A2) (most : Int) (r : ByteArray × A2) (nDecls : List (A1)), Ok (JP in1 c1 most r nDecls) Db (ev AG FW NN [] (Ba (List.replicate 175 .dead) [(0, .ptr (0, 0) [] 0 0 1 0), (1, .t (.sl false (in1.map A1.row))), (2, .ptr (2, 0) [] 0 0 1 0), (6, .ptr (6, 0) [] 0 0 1 0), (7, .ptr (7, 0) [] 0 0 1 0)]) (Bb (List.replicate 175 []) [(0, [.mem [[.sl false (c1.xb.map (rK .u8)), .v (.int .i64 c1.xi), .v (.int .i64 c1.xh)]] 0 true]), (2, [.mem [[.v (.int .i64 most)]] 0 true]), (6, [.mem [[.v (.int .i64 0), .v (.string (⟨#[]⟩)), .v (.string (⟨#[]⟩)), .v (.string (⟨#[]⟩)), .sl true [], .sl true [], .sl true [], .v (.string (⟨#[]⟩))]] 0 false]), (7, [.mem [[.v (.int .i64 1), .v (.string (⟨#[]⟩)), .v (.string r.1), .v (.string (⟨#[]⟩)), .sl true (nDecls.map A1.row), .sl true [], .sl true [], .v (.string (⟨#[]⟩))]] 0 false])]))) ∧
  (∀ (r3 : List A1) (c2 : A2) (most : Int) (nPre : ByteArray) (r : ByteArray × A2) (nDecls : List (A1)), Ok (H5 r3 c2 most nPre r nDecls) Db (ev AG FW Lr [] (Ba (List.replicate 175 .dead) [(0, .ptr (0, 0) [] 0 0 1 0), (2, .ptr (2, 0) [] 0 0 1 0), (6, .ptr (6, 0) [] 0 0 1 0), (7, .ptr (7, 0) [] 0 0 1 0), (8, .t (.sl false (r3.map A1.row)))]) (Bb (List.replicate 175 []) [(0, [.mem [[.sl false (c2.xb.map (rK .u8)), .v (.int .i64 c2.xi), .v (.int .i64 c2.xh)]] 0 true]), (2, [.mem [[.v (.int .i64 most)]] 0 true]), (6, [.mem [[.v (.int .i64 0), .v (.string (⟨#[]⟩)), .v (.string (⟨#[]⟩)), .v (.string (⟨#[]⟩)), .sl true [], .sl true [], .sl true [], .v (.string (⟨#[]⟩))]] 0 false]), (7, [.mem [[.v (.int .i64 1), .v (.string nPre), .v (.string r.1), .v (.string (⟨#[]⟩)), .sl true (nDecls.map A1.row), .sl true [], .sl true [], .v (.string (⟨#[]⟩))]] 0 false])]))) ∧
  (∀ (r3 : List A1) (u : ByteArray) (c2 : A2) (most : Int) (nPre1 : ByteArray) (r : ByteArray × A2) (nDecls : List (A1)), Ok (H6 r3 u c2 most nPre1 r nDecls) Db (ev AG FW Lq [] (Ba (List.replicate 175 .dead) [(0, .ptr (0, 0) [] 0 0 1 0), (2, .ptr (2, 0) [] 0 0 1 0), (6, .ptr (6, 0) [] 0 0 1 0), (7, .ptr (7, 0) [] 0 0 1 0), (8, .t (.sl false (r3.map A1.row))), (9, .t (.v (.string u)))]) (Bb (List.replicate 175 []) [(0, [.mem [[.sl false (c2.xb.map (rK .u8)), .v (.int .i64 c2.xi), .v (.int .i64 c2.xh)]] 0 true]), (2, [.mem [[.v (.int .i64 most)]] 0 true]), (6, [.mem [[.v (.int .i64 0), .v (.string (⟨#[]⟩)), .v (.string (⟨#[]⟩)), .v (.string (⟨#[]⟩)), .sl true [], .sl true [], .sl true [], .v (.string (⟨#[]⟩))]] 0 false]), (7, [.mem [[.v (.int .i64 1), .v (.string nPre1), .v (.string r.1), .v (.string (⟨#[]⟩)), .sl true (nDecls.map A1.row), .sl true [], .sl true [], .v (.string (⟨#[]⟩))]] 0 false])]))) ∧
  (∀ (r3 : List A1) (i1 : Int) (c4 : A2) (most : Int) (nPre1 : ByteArray) (r : ByteArray × A2) (u : ByteArray) (nDecls : List (A1)) (nAttrs : List (A3)), Ok (DT r3 i1 c4 most nPre1 r u nDecls nAttrs) Db (ev AG FW (.loop HM) [.lv 0, .th HP] (Ba (List.replicate 175 .dead) [(0, .ptr (0, 0) [] 0 0 1 0), (2, .ptr (2, 0) [] 0 0 1 0), (6, .ptr (6, 0) [] 0 0 1 0), (7, .ptr (7, 0) [] 0 0 1 0), (8, .t (.sl false (r3.map A1.row))), (11, .t (.v (.int .i64 i1)))]) (Bb (List.replicate 175 []) [(0, [.mem [[.sl false (c4.xb.map (rK .u8)), .v (.int .i64 c4.xi), .v (.int .i64 c4.xh)]] 0 true]), (2, [.mem [[.v (.int .i64 most)]] 0 true]), (6, [.mem [[.v (.int .i64 0), .v (.string (⟨#[]⟩)), .v (.string (⟨#[]⟩)), .v (.string (⟨#[]⟩)), .sl true [], .sl true [], .sl true [], .v (.string (⟨#[]⟩))]] 0 false]), (7, [.mem [[.v (.int .i64 1), .v (.string nPre1), .v (.string r.1), .v (.string u), .sl true (nDecls.map A1.row), .sl true (nAttrs.map A3.row), .sl true [], .v (.string (⟨#[]⟩))]] 0 false])]))) ∧
  (∀ (r3 : List A1) (i2 : Int) (c5 : A2) (most2 : Int) (nPre1 : ByteArray) (r : ByteArray × A2) (u : ByteArray) (nDecls : List (A1)) (nAttrs : List (A3)) (nKids1 : List (A0)), Ok (CI r3 i2 c5 most2 nPre1 r u nDecls nAttrs nKids1) Db (ev AG FW (.loop HN) [.lv 2, .th HO] (Ba (List.replicate 175 .dead) [(0, .ptr (0, 0) [] 0 0 1 0), (2, .ptr (2, 0) [] 0 0 1 0), (6, .ptr (6, 0) [] 0 0 1 0), (7, .ptr (7, 0) [] 0 0 1 0), (8, .t (.sl false (r3.map A1.row))), (16, .t (.v (.int .i64 i2)))]) (Bb (List.replicate 175 []) [(0, [.mem [[.sl false (c5.xb.map (rK .u8)), .v (.int .i64 c5.xi), .v (.int .i64 c5.xh)]] 0 true]), (2, [.mem [[.v (.int .i64 most2)]] 0 true]), (6, [.mem [[.v (.int .i64 0), .v (.string (⟨#[]⟩)), .v (.string (⟨#[]⟩)), .v (.string (⟨#[]⟩)), .sl true [], .sl true [], .sl true [], .v (.string (⟨#[]⟩))]] 0 false]), (7, [.mem [[.v (.int .i64 1), .v (.string nPre1), .v (.string r.1), .v (.string u), .sl true (nDecls.map A1.row), .sl true (nAttrs.map A3.row), .sl true (nKids1.map (A0.row true)), .v (.string (⟨#[]⟩))]] 0 false])]))) ∧
  (∀ (r3 : List A1) (i2 : Int) (r42 : Int × A2) (x5 : Bool) (most2 : Int) (nPre1 : ByteArray) (r : ByteArray × A2) (u : ByteArray) (nDecls : List (A1)) (nAttrs : List (A3)) (nKids1 : List (A0)), Ok (H7 r3 i2 r42 x5 most2 nPre1 r u nDecls nAttrs nKids1) Db (ev AG FW Lo [.lv 4, .lv 3, .th Lp, .hk [.clean [17, 129, 133, 134, 142, 145, 146, 153, 156, 157, 164, 167, 168]], .th (.loop HN), .lv 2, .th HO] (Ba (List.replicate 175 .dead) [(0, .ptr (0, 0) [] 0 0 1 0), (2, .ptr (2, 0) [] 0 0 1 0), (6, .ptr (6, 0) [] 0 0 1 0), (7, .ptr (7, 0) [] 0 0 1 0), (8, .t (.sl false (r3.map A1.row))), (16, .t (.v (.int .i64 i2))), (125, .t (.v (.int .i64 r42.1))), (136, .t (.v (.bool x5)))]) (Bb (List.replicate 175 []) [(0, [.mem [[.sl false (r42.2.xb.map (rK .u8)), .v (.int .i64 r42.2.xi), .v (.int .i64 r42.2.xh)]] 0 true]), (2, [.mem [[.v (.int .i64 (BA most2 1))]] 0 true]), (6, [.mem [[.v (.int .i64 0), .v (.string (⟨#[]⟩)), .v (.string (⟨#[]⟩)), .v (.string (⟨#[]⟩)), .sl true [], .sl true [], .sl true [], .v (.string (⟨#[]⟩))]] 0 false]), (7, [.mem [[.v (.int .i64 1), .v (.string nPre1), .v (.string r.1), .v (.string u), .sl true (nDecls.map A1.row), .sl true (nAttrs.map A3.row), .sl true (nKids1.map (A0.row true)), .v (.string (⟨#[]⟩))]] 0 false])]))) ∧
  (∀ (r3 : List A1) (i1 : Int) (r31 : ByteArray × A2) (most : Int) (nPre1 : ByteArray) (r : ByteArray × A2) (u : ByteArray) (nDecls : List (A1)) (nAttrs : List (A3)) (a1 : A3), Ok (Fk r3 i1 r31 most nPre1 r u nDecls nAttrs a1) Db (ev AG FW Lm [.lv 1, .th Ln, .hk [.clean [12, 61, 67, 103, 104]], .th (.loop HM), .lv 0, .th HP] (Ba (List.replicate 175 .dead) [(0, .ptr (0, 0) [] 0 0 1 0), (2, .ptr (2, 0) [] 0 0 1 0), (6, .ptr (6, 0) [] 0 0 1 0), (7, .ptr (7, 0) [] 0 0 1 0), (8, .t (.sl false (r3.map A1.row))), (11, .t (.v (.int .i64 i1))), (12, .ptr (12, 0) [] 0 0 1 0)]) (Bb (List.replicate 175 []) [(0, [.mem [[.sl false (r31.2.xb.map (rK .u8)), .v (.int .i64 r31.2.xi), .v (.int .i64 r31.2.xh)]] 0 true]), (2, [.mem [[.v (.int .i64 most)]] 0 true]), (6, [.mem [[.v (.int .i64 0), .v (.string (⟨#[]⟩)), .v (.string (⟨#[]⟩)), .v (.string (⟨#[]⟩)), .sl true [], .sl true [], .sl true [], .v (.string (⟨#[]⟩))]] 0 false]), (7, [.mem [[.v (.int .i64 1), .v (.string nPre1), .v (.string r.1), .v (.string u), .sl true (nDecls.map A1.row), .sl true (nAttrs.map A3.row), .sl true [], .v (.string (⟨#[]⟩))]] 0 false]), (12, [.mem [[.v (.string a1.Pre), .v (.string a1.Local), .v (.string a1.Uri), .v (.string a1.Val)]] 0 false])]))) := by
 unfold Ok
 refine FG.mutual_partial_correctness _ _ _ _ _ _ _ _ ?_ ?_ ?_ ?_ ?_ ?_ ?_ ?_
 ·intro F1 ih1 c in1 most
  show Ok _ _ _
  have ih1 : ∀ (in1 : List A1) (c1 : A2) (most : Int) (r : ByteArray × A2) (nDecls : List (A1)), Ok (F1 in1 c1 most r nDecls) _ _ := ih1
  rw [A9 AG (fn := Nw) rfl (xN rfl rfl _) (lB rfl)]
  have k0 := @Nw.eq_1; have g0 := BM; have g1 := C2; have g2 := R5; have t0 := ih1
  exact gs
 ·intro F2 ih2 in1 c1 most r nDecls
  show Ok _ _ _
  have ih2 : ∀ (r3 : List A1) (c2 : A2) (most : Int) (nPre : ByteArray) (r : ByteArray × A2) (nDecls : List (A1)), Ok (F2 r3 c2 most nPre r nDecls) _ _ := ih2
  have k0 := @NN.eq_1; have g0 := TK; have g1 := C2; have g2 := BM; have t0 := ih2
  exact gs
 ·intro F3 ih3 r3 c2 most nPre r nDecls
  show Ok _ _ _
  have ih3 : ∀ (r3 : List A1) (u : ByteArray) (c2 : A2) (most : Int) (nPre1 : ByteArray) (r : ByteArray × A2) (nDecls : List (A1)), Ok (F3 r3 u c2 most nPre1 r nDecls) _ _ := ih3
  have k0 := @Lr.eq_1; have g0 := Ha; have t0 := ih3
  exact gs
 ·intro F4 ih4 r3 u c2 most nPre1 r nDecls
  show Ok _ _ _
  have ih4 : ∀ (r3 : List A1) (i1 : Int) (c4 : A2) (most : Int) (nPre1 : ByteArray) (r : ByteArray × A2) (u : ByteArray) (nDecls : List (A1)) (nAttrs : List (A3)), Ok (F4 r3 i1 c4 most nPre1 r u nDecls nAttrs) _ _ := ih4
  have k0 := @Lq.eq_1; have g0 := Ar; have t0 := ih4
  exact gs
 ·intro F5 F7 ih5 ih7 r3 i1 c4 most nPre1 r u nDecls nAttrs
  show Ok _ _ _
  have ih7 : ∀ (r3 : List A1) (i1 : Int) (r31 : ByteArray × A2) (most : Int) (nPre1 : ByteArray) (r : ByteArray × A2) (u : ByteArray) (nDecls : List (A1)) (nAttrs : List (A3)) (a1 : A3), Ok (F7 r3 i1 r31 most nPre1 r u nDecls nAttrs a1) _ _ := ih7
  have ih5 : ∀ (r3 : List A1) (i2 : Int) (c5 : A2) (most2 : Int) (nPre1 : ByteArray) (r : ByteArray × A2) (u : ByteArray) (nDecls : List (A1)) (nAttrs : List (A3)) (nKids1 : List (A0)), Ok (F5 r3 i2 c5 most2 nPre1 r u nDecls nAttrs nKids1) _ _ := ih5
  rw [AX]
  have k0 := @HM.eq_1; have k1 := @HP.eq_1; have g0 := BM; have g1 := cE; have g2 := Ha; have g3 := Ar; have t0 := ih7; have t1 := ih5
  exact gs
 ·intro F6 ih6 r3 i2 c5 most2 nPre1 r u nDecls nAttrs nKids1
  show Ok _ _ _
  have ih6 : ∀ (r3 : List A1) (i2 : Int) (r42 : Int × A2) (x5 : Bool) (most2 : Int) (nPre1 : ByteArray) (r : ByteArray × A2) (u : ByteArray) (nDecls : List (A1)) (nAttrs : List (A3)) (nKids1 : List (A0)), Ok (F6 r3 i2 r42 x5 most2 nPre1 r u nDecls nAttrs nKids1) _ _ := ih6
  rw [AX]
  have k0 := @HN.eq_1; have k1 := @HO.eq_1; have g0 := Ar; have g1 := cF; have t0 := ih6
  exact gs
 ·intro F0 F5 ih0 ih5 r3 i2 r42 x5 most2 nPre1 r u nDecls nAttrs nKids1
  show Ok _ _ _
  have ih0 : ∀ (c : A2) (in1 : List A1) (most : Int), Ok (F0 c in1 most) _ _ := ih0
  have ih5 : ∀ (r3 : List A1) (i2 : Int) (c5 : A2) (most2 : Int) (nPre1 : ByteArray) (r : ByteArray × A2) (u : ByteArray) (nDecls : List (A1)) (nAttrs : List (A3)) (nKids1 : List (A0)), Ok (F5 r3 i2 c5 most2 nPre1 r u nDecls nAttrs nKids1) _ _ := ih5
  have k0 := @Lo.eq_1; have k1 := @Lp.eq_1; have g0 := BM; have g1 := ih0; have t0 := ih5
  exact gs
 ·intro F4 ih4 r3 i1 r31 most nPre1 r u nDecls nAttrs a1
  show Ok _ _ _
  have ih4 : ∀ (r3 : List A1) (i1 : Int) (c4 : A2) (most : Int) (nPre1 : ByteArray) (r : ByteArray × A2) (u : ByteArray) (nDecls : List (A1)) (nAttrs : List (A3)), Ok (F4 r3 i1 c4 most nPre1 r u nDecls nAttrs) _ _ := ih4
  have k0 := @Lm.eq_1; have k1 := @Ln.eq_1; have g0 := R6; have t0 := ih4
  exact gs
theorem ga (c : A2) (in1 : List A1) (most : Int) : Ok (FG c in1 most) Db (dn AG Nr [.lp [.sl false (c.xb.map (rK .u8)), .v (.int .i64 c.xi), .v (.int .i64 c.xh)] 0, .t (.sl false (in1.map A1.row)), .lp [.v (.int .i64 most)] 0]) := jX.1 c in1 most
theorem ZI : (∀ (n : A0), Ok (C5 n) JT (dn AG IS [.agg (((A0.row false) n).map .t)])) ∧
  (∀ (k : Int) (i : Int) (n : A0), Ok (BB k i n) JT (ev AG Qn (.loop Ip) [.lv 0, .th Iq] (Ba (List.replicate 25 .dead) [(1, .ptr (1, 0) [] 0 0 1 0), (3, .t (.v (.int .i64 k))), (4, .t (.v (.int .i64 i)))]) (Bb (List.replicate 25 []) [(1, [.mem [[.v (.int .i64 n.Kind), .v (.string n.Pre), .v (.string n.Local), .v (.string n.Uri), .sl false (n.Decls.map A1.row), .sl false (n.Attrs.map A3.row), .sl false (n.Kids.map (A0.row false)), .v (.string n.Text)]] 0 false])]))) := by
 unfold Ok
 refine C5.mutual_partial_correctness _ _ ?_ ?_
 ·intro F1 ih1 n
  show Ok _ _ _
  have ih1 : ∀ (k : Int) (i : Int) (n : A0), Ok (F1 k i n) _ _ := ih1
  rw [A9 AG (fn := Ir) rfl (xN rfl rfl _) (lB rfl)]
  have k0 := @Ir.eq_1; have t0 := ih1
  exact gs
 ·intro F0 F1 ih0 ih1 k i n
  show Ok _ _ _
  have ih0 : ∀ (n : A0), Ok (F0 n) _ _ := ih0
  have ih1 : ∀ (k : Int) (i : Int) (n : A0), Ok (F1 k i n) _ _ := ih1
  rw [AX]
  have k0 := @Ip.eq_1; have k1 := @Iq.eq_1; have g0 := ih0; have t0 := ih1
  exact gs
theorem Xk (n : A0) : Ok (C5 n) JT (dn AG IS [.agg (((A0.row false) n).map .t)]) := ZI.1 n
end TT
