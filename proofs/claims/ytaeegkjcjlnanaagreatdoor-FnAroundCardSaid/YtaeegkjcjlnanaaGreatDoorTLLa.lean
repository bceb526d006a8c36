import Derived.Test.YtaeegkjcjlnanaaGreatDoorTKK
import Derived.Test.YtaeegkjcjlnanaaGreatDoorTDefs
set_option maxHeartbeats 2000000
set_option linter.unusedVariables false
set_option linter.unusedSimpArgs false
set_option linter.defProp false
set_option maxRecDepth 100000
namespace TT
open Go
open Nat (reduceAdd reduceSub reduceMul reduceLeDiff reduceLT reduceEqDiff)
def Yd (r : Bool) : Ap := ⟨[.t (.v (.bool r))], []⟩
def kw : Cx := ⟨1, [0], [.tmp 2]⟩
def PY (r : A2) : Ap := ⟨[.box [.sl false (r.xb.map (rK .u8)), .v (.int .i64 r.xi), .v (.int .i64 r.xh)]], []⟩
def UU : Cx := ⟨1, [0], [.tmp 2]⟩
def SX (r : Int × A2) : Ap := ⟨[.t (.v (.int .i64 r.1))], [some [[.sl false (r.2.xb.map (rK .u8)), .v (.int .i64 r.2.xi), .v (.int .i64 r.2.xh)]]]⟩
def ai : Cx := ⟨1, [1], [.tmp 2]⟩
def Qd (r : Int × A2) : Ap := ⟨[.t (.v (.int .i64 r.1))], [some [[.sl false (r.2.xb.map (rK .u8)), .v (.int .i64 r.2.xi), .v (.int .i64 r.2.xh)]]]⟩
def Ye : Cx := ⟨2, [1, 0], [.tmp 4]⟩
def SY (r : Bool × A2) : Ap := ⟨[.t (.v (.bool r.1))], [some [[.sl false (r.2.xb.map (rK .u8)), .v (.int .i64 r.2.xi), .v (.int .i64 r.2.xh)]]]⟩
def aj : Cx := ⟨2, [1, 0], [.tmp 4]⟩
def UV (r : ByteArray × A2) : Ap := ⟨[.t (.v (.string r.1))], [some [[.sl false (r.2.xb.map (rK .u8)), .v (.int .i64 r.2.xi), .v (.int .i64 r.2.xh)]]]⟩
def fE : Cx := ⟨2, [1, 0], [.tmp 4]⟩
def UW (r : ByteArray × A2) : Ap := ⟨[.t (.v (.string r.1))], [some [[.sl false (r.2.xb.map (rK .u8)), .v (.int .i64 r.2.xi), .v (.int .i64 r.2.xh)]]]⟩
def fF : Cx := ⟨1, [1], [.tmp 2]⟩
def SZ (r : A1 × A2) : Ap := ⟨[.agg [.v (.string r.1.Pre), .v (.string r.1.Uri)]], [some [[.sl false (r.2.xb.map (rK .u8)), .v (.int .i64 r.2.xi), .v (.int .i64 r.2.xh)]]]⟩
def al : Cx := ⟨1, [1], [.cell 2 2 true]⟩
def OC (r : List A1 × A2) : Ap := ⟨[.t (.sl true (r.1.map A1.row))], [some [[.sl false (r.2.xb.map (rK .u8)), .v (.int .i64 r.2.xi), .v (.int .i64 r.2.xh)]]]⟩
def Sc : Cx := ⟨1, [1], [.tmp 2]⟩
def UX (r : List A1) : Ap := ⟨[.t (.sl true (r.map A1.row))], []⟩
def fG : Cx := ⟨2, [0, 0], [.tmp 4]⟩
def NE (r : ByteArray × Bool) : Ap := ⟨[.t (.v (.string r.1)), .t (.v (.bool r.2))], []⟩
def Qe : Cx := ⟨2, [0, 0], [.tmp 4, .tmp 5]⟩
def UY (r : ByteArray × A2) : Ap := ⟨[.t (.v (.string r.1))], [some [[.sl false (r.2.xb.map (rK .u8)), .v (.int .i64 r.2.xi), .v (.int .i64 r.2.xh)]]]⟩
def fH : Cx := ⟨1, [1], [.tmp 2]⟩
def Sd (r : Bool) : Ap := ⟨[.t (.v (.bool r))], []⟩
def am : Cx := ⟨2, [0, 0], [.tmp 4]⟩
def Mp (r : List A0) : Ap := ⟨[.t (.sl true (r.map (A0.row true)))], []⟩
def UZ : Cx := ⟨1, [0], [.tmp 2]⟩
def OD (r : A0) : Ap := ⟨[.agg [.v (.int .i64 r.Kind), .v (.string r.Pre), .v (.string r.Local), .v (.string r.Uri), .sl true (r.Decls.map A1.row), .sl true (r.Attrs.map A3.row), .sl true (r.Kids.map (A0.row true)), .v (.string r.Text)]], []⟩
def ao : Cx := ⟨1, [0], [.cell 2 8 true]⟩
def Mq (r : List A0) : Ap := ⟨[.t (.sl true (r.map (A0.row true)))], []⟩
def PZ : Cx := ⟨1, [0], [.tmp 2]⟩
def Dg (r : A0 × A2 × Int) : Ap := ⟨[.agg [.v (.int .i64 r.1.Kind), .v (.string r.1.Pre), .v (.string r.1.Local), .v (.string r.1.Uri), .sl true (r.1.Decls.map A1.row), .sl true (r.1.Attrs.map A3.row), .sl true (r.1.Kids.map (A0.row true)), .v (.string r.1.Text)]], [some [[.sl false (r.2.1.xb.map (rK .u8)), .v (.int .i64 r.2.1.xi), .v (.int .i64 r.2.1.xh)]], some [[.v (.int .i64 r.2.2)]]]⟩
def FQ : Cx := ⟨3, [1, 0, 1], [.cell 6 8 true]⟩
def Ja (r : Int) : Ap := ⟨[.t (.v (.int .i64 r))], []⟩
def Qf : Cx := ⟨1, [0], [.tmp 2]⟩
def Wn (r : Bool) : Ap := ⟨[.t (.v (.bool r))], []⟩
def iT : Cx := ⟨3, [0, 0, 0], [.tmp 6]⟩
def Fl (r : Int × Int × Bool) : Ap := ⟨[.t (.v (.int .i64 r.1)), .t (.v (.int .i64 r.2.1)), .t (.v (.bool r.2.2))], []⟩
def HC : Cx := ⟨2, [0, 0], [.tmp 4, .tmp 5, .tmp 6]⟩
def Lu (r : Bool) : Ap := ⟨[.t (.v (.bool r))], []⟩
def Pr : Cx := ⟨2, [0, 0], [.tmp 4]⟩
def Qg (r : Bool) : Ap := ⟨[.t (.v (.bool r))], []⟩
def Yf : Cx := ⟨1, [0], [.tmp 2]⟩
def Se (r : Bool) : Ap := ⟨[.t (.v (.bool r))], []⟩
def aq : Cx := ⟨1, [0], [.tmp 2]⟩
def NF (r : Bool) : Ap := ⟨[.t (.v (.bool r))], []⟩
def Qh : Cx := ⟨1, [0], [.tmp 2]⟩
def Ua (r : Bool) : Ap := ⟨[.t (.v (.bool r))], []⟩
def fI : Cx := ⟨1, [0], [.tmp 2]⟩
def Ub (r : Bool) : Ap := ⟨[.t (.v (.bool r))], []⟩
def fJ : Cx := ⟨1, [0], [.tmp 2]⟩
def Sg (r : Bool) : Ap := ⟨[.t (.v (.bool r))], []⟩
def au : Cx := ⟨1, [0], [.tmp 2]⟩
def NG (r : Bool) : Ap := ⟨[.t (.v (.bool r))], []⟩
def Qi : Cx := ⟨1, [0], [.tmp 2]⟩
def Sh (r : Bool) : Ap := ⟨[.t (.v (.bool r))], []⟩
def av : Cx := ⟨1, [0], [.tmp 2]⟩
def OE (r : Bool) : Ap := ⟨[.t (.v (.bool r))], []⟩
def Si : Cx := ⟨1, [0], [.tmp 2]⟩
def NH (r : Bool) : Ap := ⟨[.t (.v (.bool r))], []⟩
def Qj : Cx := ⟨1, [0], [.tmp 2]⟩
def Sj (r : Bool) : Ap := ⟨[.t (.v (.bool r))], []⟩
def aw : Cx := ⟨1, [0], [.tmp 2]⟩
def Pa (r : Bool) : Ap := ⟨[.t (.v (.bool r))], []⟩
def Uc : Cx := ⟨2, [0, 0], [.tmp 4]⟩
def Ud (r : Bool) : Ap := ⟨[.t (.v (.bool r))], []⟩
def fK : Cx := ⟨1, [0], [.tmp 2]⟩
def Qk (r : Bool) : Ap := ⟨[.t (.v (.bool r))], []⟩
def Yg : Cx := ⟨1, [0], [.tmp 2]⟩
def Lv (r : Bool) : Ap := ⟨[.t (.v (.bool r))], []⟩
def Ps : Cx := ⟨1, [0], [.tmp 2]⟩
def Mr (r : Bool) : Ap := ⟨[.t (.v (.bool r))], []⟩
def Pb : Cx := ⟨1, [0], [.tmp 2]⟩
def HD (r : Bool) : Ap := ⟨[.t (.v (.bool r))], []⟩
def OF : Cx := ⟨2, [0, 0], [.tmp 4]⟩
def L8 (r : Bool) : Ap := ⟨[.t (.v (.bool r))], []⟩
def OG : Cx := ⟨1, [0], [.tmp 2]⟩
def Fm (r : Bool) : Ap := ⟨[.t (.v (.bool r))], []⟩
def L9 : Cx := ⟨2, [0, 0], [.tmp 4]⟩
def Sk (r : Bool) : Ap := ⟨[.t (.v (.bool r))], []⟩
def ax : Cx := ⟨1, [0], [.tmp 2]⟩
def LA (r : A0 × A2) : Ap := ⟨[.agg [.v (.int .i64 r.1.Kind), .v (.string r.1.Pre), .v (.string r.1.Local), .v (.string r.1.Uri), .sl true (r.1.Decls.map A1.row), .sl true (r.1.Attrs.map A3.row), .sl true (r.1.Kids.map (A0.row true)), .v (.string r.1.Text)]], [some [[.sl false (r.2.xb.map (rK .u8)), .v (.int .i64 r.2.xi), .v (.int .i64 r.2.xh)]]]⟩
def OH : Cx := ⟨1, [1], [.cell 2 8 true]⟩
def Pt (r : A0) : Ap := ⟨[.agg [.v (.int .i64 r.Kind), .v (.string r.Pre), .v (.string r.Local), .v (.string r.Uri), .sl true (r.Decls.map A1.row), .sl true (r.Attrs.map A3.row), .sl true (r.Kids.map (A0.row true)), .v (.string r.Text)]], []⟩
def XF : Cx := ⟨1, [0], [.cell 2 8 true]⟩
def NI (r : List Int) : Ap := ⟨[.t (.sl true (r.map rI))], []⟩
def NJ : Cx := ⟨1, [0], [.tmp 2]⟩
def M7 (r : List Int) : Ap := ⟨[.t (.sl true (r.map rI))], []⟩
def Rs : Cx := ⟨1, [0], [.tmp 2]⟩
def Hh (r : List (List Int)) : Ap := ⟨[.t (.sl true (r.map (rL true rI)))], [none]⟩
def Pu : Cx := ⟨3, [0, 0, 1], [.tmp 6]⟩
def Sl (r : List (List Int)) : Ap := ⟨[.t (.sl true (r.map (rL true rI)))], []⟩
def ay : Cx := ⟨1, [0], [.tmp 2]⟩
def Jb (r : Int) : Ap := ⟨[.t (.v (.int .i64 r))], []⟩
def Ql : Cx := ⟨1, [0], [.tmp 2]⟩
def cg (r : Bool) : Ap := ⟨[.t (.v (.bool r))], []⟩
def nn : Cx := ⟨3, [0, 0, 0], [.tmp 6]⟩
def CI (r : Int × Int) : Ap := ⟨[.t (.v (.int .i32 r.1)), .t (.v (.int .i64 r.2))], []⟩
def IL : Cx := ⟨1, [0], [.tmp 2, .tmp 3]⟩
def Sm (r : Int × Int × Bool) : Ap := ⟨[.t (.v (.int .i64 r.1)), .t (.v (.int .i64 r.2.1)), .t (.v (.bool r.2.2))], []⟩
def az : Cx := ⟨2, [0, 0], [.tmp 4, .tmp 5, .tmp 6]⟩
def Qm (r : Bool × Int) : Ap := ⟨[.t (.v (.bool r.1))], [some [[.v (.int .i64 r.2)]]]⟩
def Yh : Cx := ⟨2, [0, 1], [.tmp 3]⟩
def CX (r : Int × Int) : Ap := ⟨[.t (.v (.int .i64 r.1))], [some [[.v (.int .i64 r.2)]]]⟩
def EX : Cx := ⟨2, [0, 1], [.tmp 4]⟩
def Dh (r : Bool × Int) : Ap := ⟨[.t (.v (.bool r.1))], [some [[.v (.int .i64 r.2)]]]⟩
def HE : Cx := ⟨2, [0, 1], [.tmp 4]⟩
def Ue (r : Bool) : Ap := ⟨[.t (.v (.bool r))], []⟩
def fL : Cx := ⟨2, [0, 0], [.tmp 4]⟩
def Sp (r : Bool) : Ap := ⟨[.t (.v (.bool r))], []⟩
def b5 : Cx := ⟨1, [0], [.tmp 2]⟩
def NK (r : Bool) : Ap := ⟨[.t (.v (.bool r))], []⟩
def Qn : Cx := ⟨1, [0], [.tmp 2]⟩
def Sq (r : Bool) : Ap := ⟨[.t (.v (.bool r))], []⟩
def b6 : Cx := ⟨1, [0], [.tmp 2]⟩
def Hz (r : Bool) : Ap := ⟨[.t (.v (.bool r))], []⟩
def TY : Cx := ⟨2, [0, 0], [.tmp 4]⟩
def EY (r : Bool) : Ap := ⟨[.t (.v (.bool r))], []⟩
def Jc : Cx := ⟨2, [0, 0], [.tmp 4]⟩
def M8 (r : Bool) : Ap := ⟨[.t (.v (.bool r))], []⟩
def Rt : Cx := ⟨2, [0, 0], [.tmp 4]⟩
def Ss (r : Bool) : Ap := ⟨[.t (.v (.bool r))], []⟩
def b7 : Cx := ⟨1, [0], [.tmp 2]⟩
def Qo (r : Bool) : Ap := ⟨[.t (.v (.bool r))], []⟩
def Yi : Cx := ⟨1, [0], [.tmp 2]⟩
def Su (r : Bool) : Ap := ⟨[.t (.v (.bool r))], []⟩
def b8 : Cx := ⟨1, [0], [.tmp 2]⟩
def NL (r : Bool) : Ap := ⟨[.t (.v (.bool r))], []⟩
def Qp : Cx := ⟨1, [0], [.tmp 2]⟩
def Gq (r : Bool) : Ap := ⟨[.t (.v (.bool r))], []⟩
def Ru : Cx := ⟨2, [0, 0], [.tmp 4]⟩
def Qq (r : Bool) : Ap := ⟨[.t (.v (.bool r))], []⟩
def Yj : Cx := ⟨1, [0], [.tmp 2]⟩
def Sv (r : Bool) : Ap := ⟨[.t (.v (.bool r))], []⟩
def b9 : Cx := ⟨2, [0, 0], [.tmp 4]⟩
def OI (r : Bool) : Ap := ⟨[.t (.v (.bool r))], []⟩
def Sw : Cx := ⟨1, [0], [.tmp 2]⟩
def EZ (r : Bool) : Ap := ⟨[.t (.v (.bool r))], []⟩
def Jd : Cx := ⟨2, [0, 0], [.tmp 4]⟩
def M9 (r : Bool) : Ap := ⟨[.t (.v (.bool r))], []⟩
def Rv : Cx := ⟨2, [0, 0], [.tmp 4]⟩
def Uf (r : Bool) : Ap := ⟨[.t (.v (.bool r))], []⟩
def fM : Cx := ⟨1, [0], [.tmp 2]⟩
def Ug (r : Bool) : Ap := ⟨[.t (.v (.bool r))], []⟩
def fN : Cx := ⟨2, [0, 0], [.tmp 4]⟩
def Sx (r : Bool) : Ap := ⟨[.t (.v (.bool r))], []⟩
def bA : Cx := ⟨1, [0], [.tmp 2]⟩
def NM (r : Bool) : Ap := ⟨[.t (.v (.bool r))], []⟩
def Qr : Cx := ⟨1, [0], [.tmp 2]⟩
def Sy (r : Bool) : Ap := ⟨[.t (.v (.bool r))], []⟩
def bB : Cx := ⟨1, [0], [.tmp 2]⟩
def Je (r : Int) : Ap := ⟨[.t (.v (.int .i64 r))], []⟩
def Uh : Cx := ⟨2, [0, 0], [.tmp 4]⟩
def MA (r : Int) : Ap := ⟨[.t (.v (.int .i64 r))], []⟩
def Rw : Cx := ⟨2, [0, 0], [.tmp 4]⟩
def NN (r : Bool) : Ap := ⟨[.t (.v (.bool r))], []⟩
def Qs : Cx := ⟨1, [0], [.tmp 2]⟩
def Jf (r : Bool) : Ap := ⟨[.t (.v (.bool r))], []⟩
def Nq : Cx := ⟨1, [0], [.tmp 2]⟩
def OJ (r : Bool) : Ap := ⟨[.t (.v (.bool r))], []⟩
def bC : Cx := ⟨2, [0, 0], [.tmp 4]⟩
def C3 (r : Bool × Int) : Ap := ⟨[.t (.v (.bool r.1))], [some [[.v (.int .i64 r.2)]]]⟩
def HF : Cx := ⟨2, [0, 1], [.tmp 4]⟩
def BV (r : Int × Int) : Ap := ⟨[.t (.v (.int .i64 r.1))], [some [[.v (.int .i64 r.2)]]]⟩
def Ea : Cx := ⟨2, [0, 1], [.tmp 4]⟩
def Lw (r : Bool × Int) : Ap := ⟨[.t (.v (.bool r.1))], [some [[.v (.int .i64 r.2)]]]⟩
def XG : Cx := ⟨2, [0, 1], [.tmp 3]⟩
def OK (r : Bool) : Ap := ⟨[.t (.v (.bool r))], []⟩
def bD : Cx := ⟨2, [0, 0], [.tmp 4]⟩
def OL (r : Int) : Ap := ⟨[.t (.v (.int .i64 r))], []⟩
def Sz : Cx := ⟨2, [0, 0], [.tmp 4]⟩
def OM (r : Bool) : Ap := ⟨[.t (.v (.bool r))], []⟩
def T0 : Cx := ⟨1, [0], [.tmp 2]⟩
def T3 (r : Bool) : Ap := ⟨[.t (.v (.bool r))], []⟩
def bE : Cx := ⟨2, [0, 0], [.tmp 4]⟩
def T4 (r : Bool) : Ap := ⟨[.t (.v (.bool r))], []⟩
def bF : Cx := ⟨1, [0], [.tmp 2]⟩
def MB (r : List A1) : Ap := ⟨[.t (.sl true (r.map A1.row))], []⟩
def MC : Cx := ⟨1, [0], [.tmp 2]⟩
def MD (r : List A3) : Ap := ⟨[.t (.sl true (r.map A3.row))], []⟩
def ME : Cx := ⟨1, [0], [.tmp 2]⟩
def KJ (r : A0) : Ap := ⟨[.agg [.v (.int .i64 r.Kind), .v (.string r.Pre), .v (.string r.Local), .v (.string r.Uri), .sl true (r.Decls.map A1.row), .sl true (r.Attrs.map A3.row), .sl true (r.Kids.map (A0.row true)), .v (.string r.Text)]], []⟩
def Vu : Cx := ⟨1, [0], [.cell 2 8 true]⟩
def Fx (r : List A0) : Ap := ⟨[.t (.sl true (r.map (A0.row true)))], []⟩
def Nr : Cx := ⟨1, [0], [.tmp 2]⟩
def Wo (r : AI × Bool) : Ap := ⟨[.agg [.v (.int .i64 r.1.Tre.Kind), .v (.string r.1.Tre.Pre), .v (.string r.1.Tre.Local), .v (.string r.1.Tre.Uri), .sl true (r.1.Tre.Decls.map A1.row), .sl true (r.1.Tre.Attrs.map A3.row), .sl true (r.1.Tre.Kids.map (A0.row true)), .v (.string r.1.Tre.Text), .sl true (r.1.Path.map rI)], .t (.v (.bool r.2))], []⟩
def iU : Cx := ⟨1, [0], [.cell 2 9 true, .tmp 3]⟩
def ON (r : A0 × Bool) : Ap := ⟨[.agg [.v (.int .i64 r.1.Kind), .v (.string r.1.Pre), .v (.string r.1.Local), .v (.string r.1.Uri), .sl true (r.1.Decls.map A1.row), .sl true (r.1.Attrs.map A3.row), .sl true (r.1.Kids.map (A0.row true)), .v (.string r.1.Text)], .t (.v (.bool r.2))], []⟩
def T5 : Cx := ⟨2, [0, 0], [.cell 4 8 true, .tmp 5]⟩
def Lx (r : Bool) : Ap := ⟨[.t (.v (.bool r))], []⟩
def Pv : Cx := ⟨2, [0, 0], [.tmp 4]⟩
def T6 (r : Bool) : Ap := ⟨[.t (.v (.bool r))], []⟩
def bG : Cx := ⟨1, [0], [.tmp 2]⟩
def Wp (r : A0) : Ap := ⟨[.agg [.v (.int .i64 r.Kind), .v (.string r.Pre), .v (.string r.Local), .v (.string r.Uri), .sl true (r.Decls.map A1.row), .sl true (r.Attrs.map A3.row), .sl true (r.Kids.map (A0.row true)), .v (.string r.Text)]], []⟩
def iV : Cx := ⟨1, [0], [.cell 2 8 true]⟩
def Gr (r : Bool) : Ap := ⟨[.t (.v (.bool r))], []⟩
def MF : Cx := ⟨2, [0, 0], [.tmp 4]⟩
def Gs (r : Bool) : Ap := ⟨[.t (.v (.bool r))], []⟩
def MG : Cx := ⟨2, [0, 0], [.tmp 4]⟩
def Ov (r : Bool) : Ap := ⟨[.t (.v (.bool r))], []⟩
def Vv : Cx := ⟨2, [0, 0], [.tmp 4]⟩
def Ly (r : Bool) : Ap := ⟨[.t (.v (.bool r))], []⟩
def XH : Cx := ⟨2, [0, 0], [.tmp 4]⟩
def BX (r : Bool) : Ap := ⟨[.t (.v (.bool r))], []⟩
def Eb : Cx := ⟨3, [0, 0, 0], [.tmp 6]⟩
def I1 (r : Bool) : Ap := ⟨[.t (.v (.bool r))], []⟩
def NO : Cx := ⟨2, [0, 0], [.tmp 4]⟩
def Pw (r : Bool) : Ap := ⟨[.t (.v (.bool r))], []⟩
def XI : Cx := ⟨2, [0, 0], [.tmp 4]⟩
def Qt (r : Bool × AI) : Ap := ⟨[.t (.v (.bool r.1))], [some [[.v (.int .i64 r.2.Tre.Kind), .v (.string r.2.Tre.Pre), .v (.string r.2.Tre.Local), .v (.string r.2.Tre.Uri), .sl false (r.2.Tre.Decls.map A1.row), .sl false (r.2.Tre.Attrs.map A3.row), .sl false (r.2.Tre.Kids.map (A0.row false)), .v (.string r.2.Tre.Text), .sl false (r.2.Path.map rI)]]]⟩
def Yk : Cx := ⟨2, [0, 1], [.tmp 3]⟩
def Cn (r : Int × AI) : Ap := ⟨[.t (.v (.int .i64 r.1))], [some [[.v (.int .i64 r.2.Tre.Kind), .v (.string r.2.Tre.Pre), .v (.string r.2.Tre.Local), .v (.string r.2.Tre.Uri), .sl false (r.2.Tre.Decls.map A1.row), .sl false (r.2.Tre.Attrs.map A3.row), .sl false (r.2.Tre.Kids.map (A0.row false)), .v (.string r.2.Tre.Text), .sl false (r.2.Path.map rI)]]]⟩
def Ek : Cx := ⟨2, [0, 1], [.tmp 4]⟩
def Ow (r : AI) : Ap := ⟨[.agg [.v (.int .i64 r.Tre.Kind), .v (.string r.Tre.Pre), .v (.string r.Tre.Local), .v (.string r.Tre.Uri), .sl true (r.Tre.Decls.map A1.row), .sl true (r.Tre.Attrs.map A3.row), .sl true (r.Tre.Kids.map (A0.row true)), .v (.string r.Tre.Text), .sl true (r.Path.map rI)]], []⟩
def Vw : Cx := ⟨1, [0], [.cell 2 9 true]⟩
def cj (r : AI × Bool) : Ap := ⟨[.agg [.v (.int .i64 r.1.Tre.Kind), .v (.string r.1.Tre.Pre), .v (.string r.1.Tre.Local), .v (.string r.1.Tre.Uri), .sl true (r.1.Tre.Decls.map A1.row), .sl true (r.1.Tre.Attrs.map A3.row), .sl true (r.1.Tre.Kids.map (A0.row true)), .v (.string r.1.Tre.Text), .sl true (r.1.Path.map rI)], .t (.v (.bool r.2))], []⟩
def no : Cx := ⟨2, [0, 0], [.cell 4 9 true, .tmp 5]⟩
def Ui (r : AI × Bool) : Ap := ⟨[.agg [.v (.int .i64 r.1.Tre.Kind), .v (.string r.1.Tre.Pre), .v (.string r.1.Tre.Local), .v (.string r.1.Tre.Uri), .sl true (r.1.Tre.Decls.map A1.row), .sl true (r.1.Tre.Attrs.map A3.row), .sl true (r.1.Tre.Kids.map (A0.row true)), .v (.string r.1.Tre.Text), .sl true (r.1.Path.map rI)], .t (.v (.bool r.2))], []⟩
def fO : Cx := ⟨2, [0, 0], [.cell 4 9 true, .tmp 5]⟩
def Wq (r : AI × Bool) : Ap := ⟨[.agg [.v (.int .i64 r.1.Tre.Kind), .v (.string r.1.Tre.Pre), .v (.string r.1.Tre.Local), .v (.string r.1.Tre.Uri), .sl true (r.1.Tre.Decls.map A1.row), .sl true (r.1.Tre.Attrs.map A3.row), .sl true (r.1.Tre.Kids.map (A0.row true)), .v (.string r.1.Tre.Text), .sl true (r.1.Path.map rI)], .t (.v (.bool r.2))], []⟩
def iW : Cx := ⟨1, [0], [.cell 2 9 true, .tmp 3]⟩
def Wr (r : AI × Bool) : Ap := ⟨[.agg [.v (.int .i64 r.1.Tre.Kind), .v (.string r.1.Tre.Pre), .v (.string r.1.Tre.Local), .v (.string r.1.Tre.Uri), .sl true (r.1.Tre.Decls.map A1.row), .sl true (r.1.Tre.Attrs.map A3.row), .sl true (r.1.Tre.Kids.map (A0.row true)), .v (.string r.1.Tre.Text), .sl true (r.1.Path.map rI)], .t (.v (.bool r.2))], []⟩
def iX : Cx := ⟨1, [0], [.cell 2 9 true, .tmp 3]⟩
def Uj (r : Int × A2) : Ap := ⟨[.t (.v (.int .i64 r.1))], [some [[.sl false (r.2.xb.map (rK .u8)), .v (.int .i64 r.2.xi), .v (.int .i64 r.2.xh)]]]⟩
def fP : Cx := ⟨2, [1, 0], [.tmp 4]⟩
def T7 (r : ByteArray × A2) : Ap := ⟨[.t (.v (.string r.1))], [some [[.sl false (r.2.xb.map (rK .u8)), .v (.int .i64 r.2.xi), .v (.int .i64 r.2.xh)]]]⟩
def bH : Cx := ⟨1, [1], [.tmp 2]⟩
def Uk (r : ByteArray × A2) : Ap := ⟨[.t (.v (.string r.1))], [some [[.sl false (r.2.xb.map (rK .u8)), .v (.int .i64 r.2.xi), .v (.int .i64 r.2.xh)]]]⟩
def fQ : Cx := ⟨1, [1], [.tmp 2]⟩
def Ul (r : List A1 × A2) : Ap := ⟨[.t (.sl true (r.1.map A1.row))], [some [[.sl false (r.2.xb.map (rK .u8)), .v (.int .i64 r.2.xi), .v (.int .i64 r.2.xh)]]]⟩
def fR : Cx := ⟨1, [1], [.tmp 2]⟩
def LB (r : ByteArray × A2) : Ap := ⟨[.t (.v (.string r.1))], [some [[.sl false (r.2.xb.map (rK .u8)), .v (.int .i64 r.2.xi), .v (.int .i64 r.2.xh)]]]⟩
def OO : Cx := ⟨1, [1], [.tmp 2]⟩
def CO (r : A0 × A2) : Ap := ⟨[.agg [.v (.int .i64 r.1.Kind), .v (.string r.1.Pre), .v (.string r.1.Local), .v (.string r.1.Uri), .sl true (r.1.Decls.map A1.row), .sl true (r.1.Attrs.map A3.row), .sl false (r.1.Kids.map (A0.row false)), .v (.string r.1.Text)]], [some [[.sl false (r.2.xb.map (rK .u8)), .v (.int .i64 r.2.xi), .v (.int .i64 r.2.xh)]]]⟩
def Eh : Cx := ⟨1, [1], [.cell 2 8 true]⟩
def Px (r : A0) : Ap := ⟨[.agg [.v (.int .i64 r.Kind), .v (.string r.Pre), .v (.string r.Local), .v (.string r.Uri), .sl true (r.Decls.map A1.row), .sl true (r.Attrs.map A3.row), .sl false (r.Kids.map (A0.row false)), .v (.string r.Text)]], []⟩
def XJ : Cx := ⟨1, [0], [.cell 2 8 true]⟩
def Ws (r : AI × Bool) : Ap := ⟨[.agg [.v (.int .i64 r.1.Tre.Kind), .v (.string r.1.Tre.Pre), .v (.string r.1.Tre.Local), .v (.string r.1.Tre.Uri), .sl true (r.1.Tre.Decls.map A1.row), .sl true (r.1.Tre.Attrs.map A3.row), .sl true (r.1.Tre.Kids.map (A0.row true)), .v (.string r.1.Tre.Text), .sl true (r.1.Path.map rI)], .t (.v (.bool r.2))], []⟩
def iY : Cx := ⟨1, [0], [.cell 2 9 true, .tmp 3]⟩
def Py (r : Bool) : Ap := ⟨[.t (.v (.bool r))], []⟩
def XK : Cx := ⟨2, [0, 0], [.tmp 4]⟩
def Lz (r : Bool) : Ap := ⟨[.t (.v (.bool r))], []⟩
def Pz : Cx := ⟨1, [0], [.tmp 2]⟩
theorem lT {α : Type} (l : List α) : ((AC l).toNat < l.length + 1) = True := by simp [AC]
theorem np {α : Type} (l : List α) (x : α) : getI (l ++ [x]) (AC l) = some x := by simp [getI, AC]
theorem rj {α : Type} (l : List α) (x y : α) : (l ++ [x]).set (AC l).toNat y = l ++ [y] := by simp [AC]
theorem rl {α : Type} (l : List α) (x : α) : (l ++ [x])[(AC l).toNat]? = some x := by simp [AC]
theorem zj {α : Type} (l : List α) : (0 ≤ AC l) = True := by simp [AC]
theorem zk (o : Bool) (l : List A0) (i : Nat) (v0 : Int) (v1 : ByteArray) (v2 : ByteArray) (v3 : ByteArray) (v7 : ByteArray) (x : A0) : (l.map (A0.row o)).set i [.v (.int .i64 v0), .v (.string v1), .v (.string v2), .v (.string v3), .sl o [], .sl o [], .sl o [[.v (.int .i64 x.Kind), .v (.string x.Pre), .v (.string x.Local), .v (.string x.Uri), .sl o (x.Decls.map A1.row), .sl o (x.Attrs.map A3.row), .sl o (x.Kids.map (A0.row o)), .v (.string x.Text)]], .v (.string v7)] = (l.set i (A0.mk v0 v1 v2 v3 [] [] [x] v7)).map (A0.row o) := Q8 (A0.row o) l i (A0.mk v0 v1 v2 v3 [] [] [x] v7) _ (by simp only [A0.row_eq, List.map_cons, List.map_nil])
def ES := And.intro @lT <| And.intro @np <| And.intro @rj <| And.intro @rl <| And.intro @zj <| And.intro @zk <| And.intro (@Yd.eq_1) <| And.intro (@kw.eq_1) <| And.intro (@PY.eq_1) <| And.intro (@UU.eq_1) <| And.intro (@SX.eq_1) <| And.intro (@ai.eq_1) <| And.intro (@Qd.eq_1) <| And.intro (@Ye.eq_1) <| And.intro (@SY.eq_1) <| And.intro (@aj.eq_1) <| And.intro (@UV.eq_1) <| And.intro (@fE.eq_1) <| And.intro (@UW.eq_1) <| And.intro (@fF.eq_1) <| And.intro (@SZ.eq_1) <| And.intro (@al.eq_1) <| And.intro (@OC.eq_1) <| And.intro (@Sc.eq_1) <| And.intro (@UX.eq_1) <| And.intro (@fG.eq_1) <| And.intro (@NE.eq_1) <| And.intro (@Qe.eq_1) <| And.intro (@UY.eq_1) <| And.intro (@fH.eq_1) <| And.intro (@Sd.eq_1) <| And.intro (@am.eq_1) <| And.intro (@Mp.eq_1) <| And.intro (@UZ.eq_1) <| And.intro (@OD.eq_1) <| And.intro (@ao.eq_1) <| And.intro (@Mq.eq_1) <| And.intro (@PZ.eq_1) <| And.intro (@Dg.eq_1) <| And.intro (@FQ.eq_1) <| And.intro (@Ja.eq_1) <| And.intro (@Qf.eq_1) <| And.intro (@Wn.eq_1) <| And.intro (@iT.eq_1) <| And.intro (@Fl.eq_1) <| And.intro (@HC.eq_1) <| And.intro (@Lu.eq_1) <| And.intro (@Pr.eq_1) <| And.intro (@Qg.eq_1) <| And.intro (@Yf.eq_1) <| And.intro (@Se.eq_1) <| And.intro (@aq.eq_1) <| And.intro (@NF.eq_1) <| And.intro (@Qh.eq_1) <| And.intro (@Ua.eq_1) <| And.intro (@fI.eq_1) <| And.intro (@Ub.eq_1) <| And.intro (@fJ.eq_1) <| And.intro (@Sg.eq_1) <| And.intro (@au.eq_1) <| And.intro (@NG.eq_1) <| And.intro (@Qi.eq_1) <| And.intro (@Sh.eq_1) <| And.intro (@av.eq_1) <| And.intro (@OE.eq_1) <| And.intro (@Si.eq_1) <| And.intro (@NH.eq_1) <| And.intro (@Qj.eq_1) <| And.intro (@Sj.eq_1) <| And.intro (@aw.eq_1) <| And.intro (@Pa.eq_1) <| And.intro (@Uc.eq_1) <| And.intro (@Ud.eq_1) <| And.intro (@fK.eq_1) <| And.intro (@Qk.eq_1) <| And.intro (@Yg.eq_1) <| And.intro (@Lv.eq_1) <| And.intro (@Ps.eq_1) <| And.intro (@Mr.eq_1) <| And.intro (@Pb.eq_1) <| And.intro (@HD.eq_1) <| And.intro (@OF.eq_1) <| And.intro (@L8.eq_1) <| And.intro (@OG.eq_1) <| And.intro (@Fm.eq_1) <| And.intro (@L9.eq_1) <| And.intro (@Sk.eq_1) <| And.intro (@ax.eq_1) <| And.intro (@LA.eq_1) <| And.intro (@OH.eq_1) <| And.intro (@Pt.eq_1) <| And.intro (@XF.eq_1) <| And.intro (@NI.eq_1) <| And.intro (@NJ.eq_1) <| And.intro (@M7.eq_1) <| And.intro (@Rs.eq_1) <| And.intro (@Hh.eq_1) <| And.intro (@Pu.eq_1) <| And.intro (@Sl.eq_1) <| And.intro (@ay.eq_1) <| And.intro (@Jb.eq_1) <| And.intro (@Ql.eq_1) <| And.intro (@cg.eq_1) <| And.intro (@nn.eq_1) <| And.intro (@CI.eq_1) <| And.intro (@IL.eq_1) <| And.intro (@Sm.eq_1) <| And.intro (@az.eq_1) <| And.intro (@Qm.eq_1) <| And.intro (@Yh.eq_1) <| And.intro (@CX.eq_1) <| And.intro (@EX.eq_1) <| And.intro (@Dh.eq_1) <| And.intro (@HE.eq_1) <| And.intro (@Ue.eq_1) <| And.intro (@fL.eq_1) <| And.intro (@Sp.eq_1) <| And.intro (@b5.eq_1) <| And.intro (@NK.eq_1) <| And.intro (@Qn.eq_1) <| And.intro (@Sq.eq_1) <| And.intro (@b6.eq_1) <| And.intro (@Hz.eq_1) <| And.intro (@TY.eq_1) <| And.intro (@EY.eq_1) <| And.intro (@Jc.eq_1) <| And.intro (@M8.eq_1) <| And.intro (@Rt.eq_1) <| And.intro (@Ss.eq_1) <| And.intro (@b7.eq_1) <| And.intro (@Qo.eq_1) <| And.intro (@Yi.eq_1) <| And.intro (@Su.eq_1) <| And.intro (@b8.eq_1) <| And.intro (@NL.eq_1) <| And.intro (@Qp.eq_1) <| And.intro (@Gq.eq_1) <| And.intro (@Ru.eq_1) <| And.intro (@Qq.eq_1) <| And.intro (@Yj.eq_1) <| And.intro (@Sv.eq_1) <| And.intro (@b9.eq_1) <| And.intro (@OI.eq_1) <| And.intro (@Sw.eq_1) <| And.intro (@EZ.eq_1) <| And.intro (@Jd.eq_1) <| And.intro (@M9.eq_1) <| And.intro (@Rv.eq_1) <| And.intro (@Uf.eq_1) <| And.intro (@fM.eq_1) <| And.intro (@Ug.eq_1) <| And.intro (@fN.eq_1) <| And.intro (@Sx.eq_1) <| And.intro (@bA.eq_1) <| And.intro (@NM.eq_1) <| And.intro (@Qr.eq_1) <| And.intro (@Sy.eq_1) <| And.intro (@bB.eq_1) <| And.intro (@Je.eq_1) <| And.intro (@Uh.eq_1) <| And.intro (@MA.eq_1) <| And.intro (@Rw.eq_1) <| And.intro (@NN.eq_1) <| And.intro (@Qs.eq_1) <| And.intro (@Jf.eq_1) <| And.intro (@Nq.eq_1) <| And.intro (@OJ.eq_1) <| And.intro (@bC.eq_1) <| And.intro (@C3.eq_1) <| And.intro (@HF.eq_1) <| And.intro (@BV.eq_1) <| And.intro (@Ea.eq_1) <| And.intro (@Lw.eq_1) <| And.intro (@XG.eq_1) <| And.intro (@OK.eq_1) <| And.intro (@bD.eq_1) <| And.intro (@OL.eq_1) <| And.intro (@Sz.eq_1) <| And.intro (@OM.eq_1) <| And.intro (@T0.eq_1) <| And.intro (@T3.eq_1) <| And.intro (@bE.eq_1) <| And.intro (@T4.eq_1) <| And.intro (@bF.eq_1) <| And.intro (@MB.eq_1) <| And.intro (@MC.eq_1) <| And.intro (@MD.eq_1) <| And.intro (@ME.eq_1) <| And.intro (@KJ.eq_1) <| And.intro (@Vu.eq_1) <| And.intro (@Fx.eq_1) <| And.intro (@Nr.eq_1) <| And.intro (@Wo.eq_1) <| And.intro (@iU.eq_1) <| And.intro (@ON.eq_1) <| And.intro (@T5.eq_1) <| And.intro (@Lx.eq_1) <| And.intro (@Pv.eq_1) <| And.intro (@T6.eq_1) <| And.intro (@bG.eq_1) <| And.intro (@Wp.eq_1) <| And.intro (@iV.eq_1) <| And.intro (@Gr.eq_1) <| And.intro (@MF.eq_1) <| And.intro (@Gs.eq_1) <| And.intro (@MG.eq_1) <| And.intro (@Ov.eq_1) <| And.intro (@Vv.eq_1) <| And.intro (@Ly.eq_1) <| And.intro (@XH.eq_1) <| And.intro (@BX.eq_1) <| And.intro (@Eb.eq_1) <| And.intro (@I1.eq_1) <| And.intro (@NO.eq_1) <| And.intro (@Pw.eq_1) <| And.intro (@XI.eq_1) <| And.intro (@Qt.eq_1) <| And.intro (@Yk.eq_1) <| And.intro (@Cn.eq_1) <| And.intro (@Ek.eq_1) <| And.intro (@Ow.eq_1) <| And.intro (@Vw.eq_1) <| And.intro (@cj.eq_1) <| And.intro (@no.eq_1) <| And.intro (@Ui.eq_1) <| And.intro (@fO.eq_1) <| And.intro (@Wq.eq_1) <| And.intro (@iW.eq_1) <| And.intro (@Wr.eq_1) <| And.intro (@iX.eq_1) <| And.intro (@Uj.eq_1) <| And.intro (@fP.eq_1) <| And.intro (@T7.eq_1) <| And.intro (@bH.eq_1) <| And.intro (@Uk.eq_1) <| And.intro (@fQ.eq_1) <| And.intro (@Ul.eq_1) <| And.intro (@fR.eq_1) <| And.intro (@LB.eq_1) <| And.intro (@OO.eq_1) <| And.intro (@CO.eq_1) <| And.intro (@Eh.eq_1) <| And.intro (@Px.eq_1) <| And.intro (@XJ.eq_1) <| And.intro (@Ws.eq_1) <| And.intro (@iY.eq_1) <| And.intro (@Py.eq_1) <| And.intro (@XK.eq_1) <| And.intro (@Lz.eq_1) <| @Pz.eq_1
theorem xN {f : FuncId} (h : AF.cl.contains f = false) (h2 : (AF.lb.all fun p => p.1 != f) = true) (args : List Fy) : SD AF f args = none := pI h h2 args
theorem lB {a b : Nat} (h : Nat.ble a b = true) : a ≤ b := Nat.le_of_ble_eq_true h
theorem gs {p : Prop} (h : p := by
 try simp only [Oo, RS, reduceAdd, reduceSub, reduceMul, reduceLeDiff, reduceLT, reduceEqDiff, Nat.reduceBEq, ↓reduceIte, reduceCtorEq] at g0
 try simp only [Oo, RS, reduceAdd, reduceSub, reduceMul, reduceLeDiff, reduceLT, reduceEqDiff, Nat.reduceBEq, ↓reduceIte, reduceCtorEq] at g1
 try simp only [Oo, RS, reduceAdd, reduceSub, reduceMul, reduceLeDiff, reduceLT, reduceEqDiff, Nat.reduceBEq, ↓reduceIte, reduceCtorEq] at g2
 try simp only [Oo, RS, reduceAdd, reduceSub, reduceMul, reduceLeDiff, reduceLT, reduceEqDiff, Nat.reduceBEq, ↓reduceIte, reduceCtorEq] at g3
 try simp only [Oo, RS, reduceAdd, reduceSub, reduceMul, reduceLeDiff, reduceLT, reduceEqDiff, Nat.reduceBEq, ↓reduceIte, reduceCtorEq] at g4
 try simp only [Oo, RS, reduceAdd, reduceSub, reduceMul, reduceLeDiff, reduceLT, reduceEqDiff, Nat.reduceBEq, ↓reduceIte, reduceCtorEq] at g5
 try simp only [Oo, RS, reduceAdd, reduceSub, reduceMul, reduceLeDiff, reduceLT, reduceEqDiff, Nat.reduceBEq, ↓reduceIte, reduceCtorEq] at g6
 try simp only [Oo, RS, reduceAdd, reduceSub, reduceMul, reduceLeDiff, reduceLT, reduceEqDiff, Nat.reduceBEq, ↓reduceIte, reduceCtorEq] at g7
 try simp only [Oo, RS, reduceAdd, reduceSub, reduceMul, reduceLeDiff, reduceLT, reduceEqDiff, Nat.reduceBEq, ↓reduceIte, reduceCtorEq] at g8
 try simp only [Oo, RS, reduceAdd, reduceSub, reduceMul, reduceLeDiff, reduceLT, reduceEqDiff, Nat.reduceBEq, ↓reduceIte, reduceCtorEq] at g9
 simp only [Oo, RS, ES, *, reduceAdd, reduceSub, reduceMul, reduceLeDiff, reduceLT, reduceEqDiff, Nat.reduceBEq, ↓reduceIte, reduceCtorEq]
 try clear k0
 try clear f0
 repeat' first
  | with_reducible exact tI
  | ((with_reducible refine dg ?_); first | rfl | simp only [Oo, RS, ES])
  | ((with_reducible first
   | refine lq (t0 ..) ?_
   | refine lq (t1 ..) ?_); first | rfl | (simp only [Oo, RS, ES, reduceAdd, reduceSub, reduceMul, reduceLeDiff, reduceLT, reduceEqDiff, Nat.reduceBEq, ↓reduceIte, reduceCtorEq] <;> rfl) | (simp only [Oo, RS, ES, *, reduceAdd, reduceSub, reduceMul, reduceLeDiff, reduceLT, reduceEqDiff, Nat.reduceBEq, ↓reduceIte, reduceCtorEq] <;> rfl))
  | ((first
   | (with_reducible first
    | refine zL (fun h => ?_) (fun h => ?_)
    | refine yP fun a h => ?_
    | refine CD (g0 ..) fun v => ?_
    | refine CD (g1 ..) fun v => ?_
    | refine CD (g2 ..) fun v => ?_
    | refine CD (g3 ..) fun v => ?_
    | refine CD (g4 ..) fun v => ?_
    | refine CD (g5 ..) fun v => ?_
    | refine CD (g6 ..) fun v => ?_
    | refine CD (g7 ..) fun v => ?_
    | refine CD (g8 ..) fun v => ?_
    | refine CD (g9 ..) fun v => ?_
    | refine CD g0 fun v => ?_
    | refine CD g1 fun v => ?_
    | refine CD g2 fun v => ?_
    | refine E5 (p := aV _ _) fun a h => ?_
    | refine E5 (p := kA _) fun a h => ?_
    | refine E5 (p := room _ _) fun a h => ?_
    | refine E5 (p := mkN _ _) fun a h => ?_
    | refine E5 (p := PN _ _ _) fun a h => ?_
    | refine E5 (p := slL _ _ _) fun a h => ?_
    | refine E5 (p := PM _ _) fun a h => ?_
    | refine E5 (p := wo _ _) fun a h => ?_
    | refine E5 (p := jw _ _) fun a h => ?_
    | refine E5 (p := wq _ _ _) fun a h => ?_
    | refine E5 (p := A02 _ _ _) fun a h => ?_
    | refine E5 (p := wu _ _ _) fun a h => ?_
    | refine E5 (p := jx _ _ _) fun a h => ?_
    | refine uw fun h => ?_)
   | refine CD (g0 ..) fun v => ?_
   | refine CD (g1 ..) fun v => ?_
   | refine CD (g2 ..) fun v => ?_
   | refine CD (g3 ..) fun v => ?_
   | refine CD (g4 ..) fun v => ?_
   | refine CD (g5 ..) fun v => ?_
   | refine CD (g6 ..) fun v => ?_
   | refine CD (g7 ..) fun v => ?_
   | refine CD (g8 ..) fun v => ?_
   | refine CD (g9 ..) fun v => ?_
   | refine CB (g0 _) (by simp only [Oo, RS, List.map_cons, List.map_nil]) fun v => ?_
   | refine CB (g0 _ _) (by simp only [Oo, RS, List.map_cons, List.map_nil]) fun v => ?_
   | refine CB (g1 _) (by simp only [Oo, RS, List.map_cons, List.map_nil]) fun v => ?_
   | refine CB (g1 _ _) (by simp only [Oo, RS, List.map_cons, List.map_nil]) fun v => ?_
   | refine CB (g2 _) (by simp only [Oo, RS, List.map_cons, List.map_nil]) fun v => ?_
   | refine CB (g2 _ _) (by simp only [Oo, RS, List.map_cons, List.map_nil]) fun v => ?_
   | refine CB (g3 _) (by simp only [Oo, RS, List.map_cons, List.map_nil]) fun v => ?_
   | refine CB (g3 _ _) (by simp only [Oo, RS, List.map_cons, List.map_nil]) fun v => ?_
   | refine CB (g4 _) (by simp only [Oo, RS, List.map_cons, List.map_nil]) fun v => ?_
   | refine CB (g4 _ _) (by simp only [Oo, RS, List.map_cons, List.map_nil]) fun v => ?_
   | refine CB (g5 _) (by simp only [Oo, RS, List.map_cons, List.map_nil]) fun v => ?_
   | refine CB (g5 _ _) (by simp only [Oo, RS, List.map_cons, List.map_nil]) fun v => ?_
   | refine CB (g6 _) (by simp only [Oo, RS, List.map_cons, List.map_nil]) fun v => ?_
   | refine CB (g6 _ _) (by simp only [Oo, RS, List.map_cons, List.map_nil]) fun v => ?_
   | refine CB (g7 _) (by simp only [Oo, RS, List.map_cons, List.map_nil]) fun v => ?_
   | refine CB (g7 _ _) (by simp only [Oo, RS, List.map_cons, List.map_nil]) fun v => ?_
   | refine CB (g8 _) (by simp only [Oo, RS, List.map_cons, List.map_nil]) fun v => ?_
   | refine CB (g8 _ _) (by simp only [Oo, RS, List.map_cons, List.map_nil]) fun v => ?_
   | refine CB (g9 _) (by simp only [Oo, RS, List.map_cons, List.map_nil]) fun v => ?_
   | refine CB (g9 _ _) (by simp only [Oo, RS, List.map_cons, List.map_nil]) fun v => ?_) <;> simp only [Oo, RS, ES, *, reduceAdd, reduceSub, reduceMul, reduceLeDiff, reduceLT, reduceEqDiff, Nat.reduceBEq, ↓reduceIte, reduceCtorEq])) : p := h
theorem iZ : ∀ (code : List Int), Ok (US code) Yd (dn AF Yc [.t (.sl false (code.map (rK .u8)))]) := by
 intro code
 rw [A9 AF (fn := PX) rfl (xN rfl rfl _) (lB rfl)]
 have k0 := @PX.eq_1; have f0 := @US.eq_1
 exact gs
theorem Vx (code : List Int) : ∀ (h : Int) (i : Int), Ok (Ef code h i) PY (ev AF UU (.loop LZ) [.lv 0, .th La] (Bk (List.replicate 32 .dead) [(0, .t (.sl false (code.map (rK .u8)))), (3, .t (.v (.int .i64 h))), (4, .t (.v (.int .i64 i)))]) (Bm (List.replicate 32 []) [])) := by
 unfold Ok
 refine Ef.partial_correctness code _ ?_
 intro F ih h i
 show Ok _ _ _
 have ih : ∀ (h : Int) (i : Int), Ok (F h i) _ _ := ih
 rw [Aa]
 have k0 := @LZ.eq_1; have k1 := @La.eq_1; have t0 := ih
 exact gs
theorem T8 : ∀ (code : List Int), Ok (KF code) PY (dn AF PS [.t (.sl false (code.map (rK .u8)))]) := by
 intro code
 rw [A9 AF (fn := MT) rfl (xN rfl rfl _) (lB rfl)]
 have k0 := @MT.eq_1; have f0 := @KF.eq_1; have t0 := Vx
 exact gs
theorem Yl : ∀ (c : A2), Ok (FM c) SX (dn AF H1 [.lp [.sl false (c.xb.map (rK .u8)), .v (.int .i64 c.xi), .v (.int .i64 c.xh)] 0]) := by
 intro c
 rw [A9 AF (fn := Kf) rfl (xN rfl rfl _) (lB rfl)]
 have k0 := @Kf.eq_1; have f0 := @FM.eq_1
 exact gs
theorem BA : ∀ (c : A2) (n : Int), Ok (BI c n) Qd (dn AF BL [.lp [.sl false (c.xb.map (rK .u8)), .v (.int .i64 c.xi), .v (.int .i64 c.xh)] 0, .t (.v (.int .i64 n))]) := by
 intro c n
 rw [A9 AF (fn := Ij) rfl (xN rfl rfl _) (lB rfl)]
 have k0 := @Ij.eq_1; have f0 := @BI.eq_1; have g0 := Yl
 exact gs
theorem E2 : ∀ (c : A2) (n : Int), Ok (D8 c n) SY (dn AF DY [.lp [.sl false (c.xb.map (rK .u8)), .v (.int .i64 c.xi), .v (.int .i64 c.xh)] 0, .t (.v (.int .i64 n))]) := by
 intro c n
 rw [A9 AF (fn := Ka) rfl (xN rfl rfl _) (lB rfl)]
 have k0 := @Ka.eq_1; have f0 := @D8.eq_1; have g0 := BA
 exact gs
theorem BR : ∀ (c : A2) (list : List ByteArray), Ok (Ab c list) UV (dn AF AL [.lp [.sl false (c.xb.map (rK .u8)), .v (.int .i64 c.xi), .v (.int .i64 c.xh)] 0, .t (.sl false (list.map rS))]) := by
 intro c list
 rw [A9 AF (fn := MW) rfl (xN rfl rfl _) (lB rfl)]
 have k0 := @MW.eq_1; have f0 := @Ab.eq_1; have g0 := BA
 exact gs
theorem OP : ∀ (c : A2), Ok (KG c) UW (dn AF PT [.lp [.sl false (c.xb.map (rK .u8)), .v (.int .i64 c.xi), .v (.int .i64 c.xh)] 0]) := by
 intro c
 rw [A9 AF (fn := MY) rfl (xN rfl rfl _) (lB rfl)]
 have k0 := @MY.eq_1; have f0 := @KG.eq_1; have g0 := BR
 exact gs
theorem Qu : ∀ (c : A2), Ok (GC c) SZ (dn AF KR [.lp [.sl false (c.xb.map (rK .u8)), .v (.int .i64 c.xi), .v (.int .i64 c.xh)] 0]) := by
 intro c
 rw [A9 AF (fn := Km) rfl (xN rfl rfl _) (lB rfl)]
 have k0 := @Km.eq_1; have f0 := @GC.eq_1; have g0 := BR; have g1 := OP; have g2 := E2
 exact gs
theorem Um : ∀ (l : List (A1)) (i : Int) (c1 : A2), Ok (Bd l i c1) OC (ev AF Sc (.loop K6) [.lv 0, .th K7] (Bk (List.replicate 35 .dead) [(0, .ptr (0, 0) [] 0 0 1 0), (3, .ref (6, 0) l.length), (4, .t (.v (.int .i64 i)))]) (Bm (List.replicate 35 []) [(0, [.mem [[.sl false (c1.xb.map (rK .u8)), .v (.int .i64 c1.xi), .v (.int .i64 c1.xh)]] 0 true]), (6, [.mem (l.map A1.row) 0 false])])) := by
 unfold Ok
 refine Bd.partial_correctness _ ?_
 intro F ih l i c1
 show Ok _ _ _
 have ih : ∀ (l : List (A1)) (i : Int) (c1 : A2), Ok (F l i c1) _ _ := ih
 rw [Aa]
 have k0 := @K6.eq_1; have k1 := @K7.eq_1; have g0 := Qu; have t0 := ih
 exact gs
theorem Qv : ∀ (c : A2), Ok (IB c) OC (dn AF O9 [.lp [.sl false (c.xb.map (rK .u8)), .v (.int .i64 c.xi), .v (.int .i64 c.xh)] 0]) := by
 intro c
 rw [A9 AF (fn := Kg) rfl (xN rfl rfl _) (lB rfl)]
 have k0 := @Kg.eq_1; have f0 := @IB.eq_1; have g0 := BA; have t0 := Um
 exact gs
theorem T9 : ∀ (l : List A1) (more : List A1), Ok (DL l more) UX (dn AF PR [.t (.sl false (l.map A1.row)), .t (.sl false (more.map A1.row))]) := by
 intro l more
 rw [A9 AF (fn := Mb) rfl (xN rfl rfl _) (lB rfl)]
 have k0 := @Mb.eq_1; have f0 := @DL.eq_1
 exact gs
theorem TZ (l : List A1) (pre : ByteArray) : ∀ (i : Int), Ok (B7 l pre i) NE (ev AF Qe (.loop Is) [.lv 0, .th It] (Bk (List.replicate 28 .dead) [(0, .t (.sl false (l.map A1.row))), (1, .t (.v (.string pre))), (6, .t (.v (.int .i64 i)))]) (Bm (List.replicate 28 []) [])) := by
 unfold Ok
 refine B7.partial_correctness l pre _ ?_
 intro F ih i
 show Ok _ _ _
 have ih : ∀ (i : Int), Ok (F i) _ _ := ih
 rw [Aa]
 have k0 := @Is.eq_1; have k1 := @It.eq_1; have t0 := ih
 exact gs
theorem Hi : ∀ (l : List A1) (pre : ByteArray), Ok (B5 l pre) NE (dn AF FD [.t (.sl false (l.map A1.row)), .t (.v (.string pre))]) := by
 intro l pre
 rw [A9 AF (fn := Iu) rfl (xN rfl rfl _) (lB rfl)]
 have k0 := @Iu.eq_1; have f0 := @B5.eq_1; have t0 := TZ
 exact gs
theorem bI : ∀ (c : A2), Ok (NA c) UY (dn AF UQ [.lp [.sl false (c.xb.map (rK .u8)), .v (.int .i64 c.xi), .v (.int .i64 c.xh)] 0]) := by
 intro c
 rw [A9 AF (fn := Me) rfl (xN rfl rfl _) (lB rfl)]
 have k0 := @Me.eq_1; have f0 := @NA.eq_1; have g0 := BR
 exact gs
theorem Qw : ∀ (a : A3) (b : A3), Ok (FN a b) Sd (dn AF OB [.agg ((A3.row a).map .t), .agg ((A3.row b).map .t)]) := by
 intro a b
 rw [A9 AF (fn := Kh) rfl (xN rfl rfl _) (lB rfl)]
 have k0 := @Kh.eq_1; have f0 := @FN.eq_1
 exact gs
theorem Un : (∀ (l : List A0), Ok (NB l) Mp (dn AF PV [.t (.sl false (l.map (A0.row false)))])) ∧
  (∀ (l : List A0) (out : List (A0)) (i : Int), Ok (H5 l out i) Mp (ev AF UZ (.loop Lp) [.lv 0, .th Lq] (Bk (List.replicate 23 .dead) [(0, .t (.sl false (l.map (A0.row false)))), (3, .ref (6, 0) out.length), (4, .t (.v (.int .i64 i)))]) (Bm (List.replicate 23 []) [(6, [.mem (out.map (A0.row true)) 0 false])]))) ∧
  (∀ (n : A0), Ok (EJ n) OD (dn AF H3 [.agg (((A0.row false) n).map .t)])) := by
 unfold Ok
 refine NB.mutual_partial_correctness _ _ _ ?_ ?_ ?_
 ·intro F1 ih1 l
  show Ok _ _ _
  have ih1 : ∀ (l : List A0) (out : List (A0)) (i : Int), Ok (F1 l out i) _ _ := ih1
  rw [A9 AF (fn := Ma) rfl (xN rfl rfl _) (lB rfl)]
  have k0 := @Ma.eq_1; have t0 := ih1
  exact gs
 ·intro F1 F2 ih1 ih2 l out i
  show Ok _ _ _
  have ih2 : ∀ (n : A0), Ok (F2 n) _ _ := ih2
  have ih1 : ∀ (l : List A0) (out : List (A0)) (i : Int), Ok (F1 l out i) _ _ := ih1
  rw [Aa]
  have k0 := @Lp.eq_1; have k1 := @Lq.eq_1; have g0 := ih2; have t0 := ih1
  exact gs
 ·intro F0 ih0 n
  show Ok _ _ _
  have ih0 : ∀ (l : List A0), Ok (F0 l) _ _ := ih0
  rw [A9 AF (fn := KZ) rfl (xN rfl rfl _) (lB rfl)]
  have k0 := @KZ.eq_1; have g0 := ih0
  exact gs
theorem sR (l : List A0) : Ok (NB l) Mp (dn AF PV [.t (.sl false (l.map (A0.row false)))]) := Un.1 l
theorem NP (n : A0) : Ok (EJ n) OD (dn AF H3 [.agg (((A0.row false) n).map .t)]) := Un.2.2 n
theorem Vy (l : List A0) : (∀ (out : List (A0)) (i : Int) (x8 : Bool) (x6 : A0), Ok (Dw l out i x8 x6) Mq (ev AF PZ K8 [.th GY, .lv 1, .th GZ, .hk [.clean [5, 6, 54, 57]], .th (.loop HZ), .lv 0, .th Ha] (Bk (List.replicate 60 .dead) [(0, .t (.sl false (l.map (A0.row false)))), (3, .ref (7, 0) out.length), (4, .t (.v (.int .i64 i))), (5, .ptr (5, 0) [] 0 0 1 0), (36, .t (.v (.bool x8)))]) (Bm (List.replicate 60 []) [(5, [.mem [[.v (.int .i64 x6.Kind), .v (.string x6.Pre), .v (.string x6.Local), .v (.string x6.Uri), .sl false (x6.Decls.map A1.row), .sl false (x6.Attrs.map A3.row), .sl false (x6.Kids.map (A0.row false)), .v (.string x6.Text)]] 0 false]), (7, [.mem (out.map (A0.row true)) 0 false])]))) ∧
  (∀ (out : List (A0)) (i : Int), Ok (Bf l out i) Mq (ev AF PZ (.loop HZ) [.lv 0, .th Ha] (Bk (List.replicate 60 .dead) [(0, .t (.sl false (l.map (A0.row false)))), (3, .ref (7, 0) out.length), (4, .t (.v (.int .i64 i)))]) (Bm (List.replicate 60 []) [(7, [.mem (out.map (A0.row true)) 0 false])]))) := by
 unfold Ok
 refine Dw.mutual_partial_correctness l _ _ ?_ ?_
 ·intro F1 ih1 out i x8 x6
  show Ok _ _ _
  have ih1 : ∀ (out : List (A0)) (i : Int), Ok (F1 out i) _ _ := ih1
  have k0 := @K8.eq_1; have k1 := @GZ.eq_1; have k2 := @GY.eq_1; have g0 := NP; have t0 := ih1
  exact gs
 ·intro F0 F1 ih0 ih1 out i
  show Ok _ _ _
  have ih1 : ∀ (out : List (A0)) (i : Int), Ok (F1 out i) _ _ := ih1
  have ih0 : ∀ (out : List (A0)) (i : Int) (x8 : Bool) (x6 : A0), Ok (F0 out i x8 x6) _ _ := ih0
  rw [Aa]
  have k0 := @HZ.eq_1; have k1 := @GZ.eq_1; have k2 := @GY.eq_1; have k3 := @Ha.eq_1; have g0 := NP; have t0 := ih1; have t1 := ih0
  exact gs
theorem bJ : ∀ (l : List A0), Ok (Ht l) Mq (dn AF UM [.t (.sl false (l.map (A0.row false)))]) := by
 intro l
 rw [A9 AF (fn := Mc) rfl (xN rfl rfl _) (lB rfl)]
 have k0 := @Mc.eq_1; have f0 := @Ht.eq_1; have t0 := fun a0 => (Vy a0).2
 exact gs
theorem ib : (∀ (c : A2) (in1 : List A1) (most : Int), Ok (FI c in1 most) Dg (dn AF Nd [.lp [.sl false (c.xb.map (rK .u8)), .v (.int .i64 c.xi), .v (.int .i64 c.xh)] 0, .t (.sl false (in1.map A1.row)), .lp [.v (.int .i64 most)] 0])) ∧
  (∀ (in1 : List A1) (c1 : A2) (most : Int) (r : ByteArray × A2) (nDecls : List (A1)), Ok (JW in1 c1 most r nDecls) Dg (ev AF FQ N9 [] (Bk (List.replicate 175 .dead) [(0, .ptr (0, 0) [] 0 0 1 0), (1, .t (.sl false (in1.map A1.row))), (2, .ptr (2, 0) [] 0 0 1 0), (6, .ptr (6, 0) [] 0 0 1 0), (7, .ptr (7, 0) [] 0 0 1 0)]) (Bm (List.replicate 175 []) [(0, [.mem [[.sl false (c1.xb.map (rK .u8)), .v (.int .i64 c1.xi), .v (.int .i64 c1.xh)]] 0 true]), (2, [.mem [[.v (.int .i64 most)]] 0 true]), (6, [.mem [[.v (.int .i64 0), .v (.string (⟨#[]⟩)), .v (.string (⟨#[]⟩)), .v (.string (⟨#[]⟩)), .sl true [], .sl true [], .sl true [], .v (.string (⟨#[]⟩))]] 0 false]), (7, [.mem [[.v (.int .i64 1), .v (.string (⟨#[]⟩)), .v (.string r.1), .v (.string (⟨#[]⟩)), .sl true (nDecls.map A1.row), .sl true [], .sl true [], .v (.string (⟨#[]⟩))]] 0 false])]))) ∧
  (∀ (r3 : List A1) (c2 : A2) (most : Int) (nPre : ByteArray) (r : ByteArray × A2) (nDecls : List (A1)), Ok (H6 r3 c2 most nPre r nDecls) Dg (ev AF FQ Lo [] (Bk (List.replicate 175 .dead) [(0, .ptr (0, 0) [] 0 0 1 0), (2, .ptr (2, 0) [] 0 0 1 0), (6, .ptr (6, 0) [] 0 0 1 0), (7, .ptr (7, 0) [] 0 0 1 0), (8, .t (.sl false (r3.map A1.row)))]) (Bm (List.replicate 175 []) [(0, [.mem [[.sl false (c2.xb.map (rK .u8)), .v (.int .i64 c2.xi), .v (.int .i64 c2.xh)]] 0 true]), (2, [.mem [[.v (.int .i64 most)]] 0 true]), (6, [.mem [[.v (.int .i64 0), .v (.string (⟨#[]⟩)), .v (.string (⟨#[]⟩)), .v (.string (⟨#[]⟩)), .sl true [], .sl true [], .sl true [], .v (.string (⟨#[]⟩))]] 0 false]), (7, [.mem [[.v (.int .i64 1), .v (.string nPre), .v (.string r.1), .v (.string (⟨#[]⟩)), .sl true (nDecls.map A1.row), .sl true [], .sl true [], .v (.string (⟨#[]⟩))]] 0 false])]))) ∧
  (∀ (r3 : List A1) (u : ByteArray) (c2 : A2) (most : Int) (nPre1 : ByteArray) (r : ByteArray × A2) (nDecls : List (A1)), Ok (H7 r3 u c2 most nPre1 r nDecls) Dg (ev AF FQ Ln [] (Bk (List.replicate 175 .dead) [(0, .ptr (0, 0) [] 0 0 1 0), (2, .ptr (2, 0) [] 0 0 1 0), (6, .ptr (6, 0) [] 0 0 1 0), (7, .ptr (7, 0) [] 0 0 1 0), (8, .t (.sl false (r3.map A1.row))), (9, .t (.v (.string u)))]) (Bm (List.replicate 175 []) [(0, [.mem [[.sl false (c2.xb.map (rK .u8)), .v (.int .i64 c2.xi), .v (.int .i64 c2.xh)]] 0 true]), (2, [.mem [[.v (.int .i64 most)]] 0 true]), (6, [.mem [[.v (.int .i64 0), .v (.string (⟨#[]⟩)), .v (.string (⟨#[]⟩)), .v (.string (⟨#[]⟩)), .sl true [], .sl true [], .sl true [], .v (.string (⟨#[]⟩))]] 0 false]), (7, [.mem [[.v (.int .i64 1), .v (.string nPre1), .v (.string r.1), .v (.string (⟨#[]⟩)), .sl true (nDecls.map A1.row), .sl true [], .sl true [], .v (.string (⟨#[]⟩))]] 0 false])]))) ∧
  (∀ (r3 : List A1) (i1 : Int) (c4 : A2) (most : Int) (nPre1 : ByteArray) (r : ByteArray × A2) (u : ByteArray) (nDecls : List (A1)) (nAttrs : List (A3)), Ok (DZ r3 i1 c4 most nPre1 r u nDecls nAttrs) Dg (ev AF FQ (.loop HV) [.lv 0, .th HY] (Bk (List.replicate 175 .dead) [(0, .ptr (0, 0) [] 0 0 1 0), (2, .ptr (2, 0) [] 0 0 1 0), (6, .ptr (6, 0) [] 0 0 1 0), (7, .ptr (7, 0) [] 0 0 1 0), (8, .t (.sl false (r3.map A1.row))), (11, .t (.v (.int .i64 i1)))]) (Bm (List.replicate 175 []) [(0, [.mem [[.sl false (c4.xb.map (rK .u8)), .v (.int .i64 c4.xi), .v (.int .i64 c4.xh)]] 0 true]), (2, [.mem [[.v (.int .i64 most)]] 0 true]), (6, [.mem [[.v (.int .i64 0), .v (.string (⟨#[]⟩)), .v (.string (⟨#[]⟩)), .v (.string (⟨#[]⟩)), .sl true [], .sl true [], .sl true [], .v (.string (⟨#[]⟩))]] 0 false]), (7, [.mem [[.v (.int .i64 1), .v (.string nPre1), .v (.string r.1), .v (.string u), .sl true (nDecls.map A1.row), .sl true (nAttrs.map A3.row), .sl true [], .v (.string (⟨#[]⟩))]] 0 false])]))) ∧
  (∀ (r3 : List A1) (i2 : Int) (c5 : A2) (most2 : Int) (nPre1 : ByteArray) (r : ByteArray × A2) (u : ByteArray) (nDecls : List (A1)) (nAttrs : List (A3)) (nKids1 : List (A0)), Ok (CM r3 i2 c5 most2 nPre1 r u nDecls nAttrs nKids1) Dg (ev AF FQ (.loop HW) [.lv 2, .th HX] (Bk (List.replicate 175 .dead) [(0, .ptr (0, 0) [] 0 0 1 0), (2, .ptr (2, 0) [] 0 0 1 0), (6, .ptr (6, 0) [] 0 0 1 0), (7, .ptr (7, 0) [] 0 0 1 0), (8, .t (.sl false (r3.map A1.row))), (16, .t (.v (.int .i64 i2)))]) (Bm (List.replicate 175 []) [(0, [.mem [[.sl false (c5.xb.map (rK .u8)), .v (.int .i64 c5.xi), .v (.int .i64 c5.xh)]] 0 true]), (2, [.mem [[.v (.int .i64 most2)]] 0 true]), (6, [.mem [[.v (.int .i64 0), .v (.string (⟨#[]⟩)), .v (.string (⟨#[]⟩)), .v (.string (⟨#[]⟩)), .sl true [], .sl true [], .sl true [], .v (.string (⟨#[]⟩))]] 0 false]), (7, [.mem [[.v (.int .i64 1), .v (.string nPre1), .v (.string r.1), .v (.string u), .sl true (nDecls.map A1.row), .sl true (nAttrs.map A3.row), .sl true (nKids1.map (A0.row true)), .v (.string (⟨#[]⟩))]] 0 false])]))) ∧
  (∀ (r3 : List A1) (i2 : Int) (r42 : Int × A2) (x5 : Bool) (most2 : Int) (nPre1 : ByteArray) (r : ByteArray × A2) (u : ByteArray) (nDecls : List (A1)) (nAttrs : List (A3)) (nKids1 : List (A0)), Ok (H8 r3 i2 r42 x5 most2 nPre1 r u nDecls nAttrs nKids1) Dg (ev AF FQ Ll [.lv 4, .lv 3, .th Lm, .hk [.clean [17, 129, 133, 134, 142, 145, 146, 153, 156, 157, 164, 167, 168]], .th (.loop HW), .lv 2, .th HX] (Bk (List.replicate 175 .dead) [(0, .ptr (0, 0) [] 0 0 1 0), (2, .ptr (2, 0) [] 0 0 1 0), (6, .ptr (6, 0) [] 0 0 1 0), (7, .ptr (7, 0) [] 0 0 1 0), (8, .t (.sl false (r3.map A1.row))), (16, .t (.v (.int .i64 i2))), (125, .t (.v (.int .i64 r42.1))), (136, .t (.v (.bool x5)))]) (Bm (List.replicate 175 []) [(0, [.mem [[.sl false (r42.2.xb.map (rK .u8)), .v (.int .i64 r42.2.xi), .v (.int .i64 r42.2.xh)]] 0 true]), (2, [.mem [[.v (.int .i64 (Bz most2 1))]] 0 true]), (6, [.mem [[.v (.int .i64 0), .v (.string (⟨#[]⟩)), .v (.string (⟨#[]⟩)), .v (.string (⟨#[]⟩)), .sl true [], .sl true [], .sl true [], .v (.string (⟨#[]⟩))]] 0 false]), (7, [.mem [[.v (.int .i64 1), .v (.string nPre1), .v (.string r.1), .v (.string u), .sl true (nDecls.map A1.row), .sl true (nAttrs.map A3.row), .sl true (nKids1.map (A0.row true)), .v (.string (⟨#[]⟩))]] 0 false])]))) ∧
  (∀ (r3 : List A1) (i1 : Int) (r31 : ByteArray × A2) (most : Int) (nPre1 : ByteArray) (r : ByteArray × A2) (u : ByteArray) (nDecls : List (A1)) (nAttrs : List (A3)) (a1 : A3), Ok (Fi r3 i1 r31 most nPre1 r u nDecls nAttrs a1) Dg (ev AF FQ Lj [.lv 1, .th Lk, .hk [.clean [12, 61, 67, 103, 104]], .th (.loop HV), .lv 0, .th HY] (Bk (List.replicate 175 .dead) [(0, .ptr (0, 0) [] 0 0 1 0), (2, .ptr (2, 0) [] 0 0 1 0), (6, .ptr (6, 0) [] 0 0 1 0), (7, .ptr (7, 0) [] 0 0 1 0), (8, .t (.sl false (r3.map A1.row))), (11, .t (.v (.int .i64 i1))), (12, .ptr (12, 0) [] 0 0 1 0)]) (Bm (List.replicate 175 []) [(0, [.mem [[.sl false (r31.2.xb.map (rK .u8)), .v (.int .i64 r31.2.xi), .v (.int .i64 r31.2.xh)]] 0 true]), (2, [.mem [[.v (.int .i64 most)]] 0 true]), (6, [.mem [[.v (.int .i64 0), .v (.string (⟨#[]⟩)), .v (.string (⟨#[]⟩)), .v (.string (⟨#[]⟩)), .sl true [], .sl true [], .sl true [], .v (.string (⟨#[]⟩))]] 0 false]), (7, [.mem [[.v (.int .i64 1), .v (.string nPre1), .v (.string r.1), .v (.string u), .sl true (nDecls.map A1.row), .sl true (nAttrs.map A3.row), .sl true [], .v (.string (⟨#[]⟩))]] 0 false]), (12, [.mem [[.v (.string a1.Pre), .v (.string a1.Local), .v (.string a1.Uri), .v (.string a1.Val)]] 0 false])]))) := by
 unfold Ok
 refine FI.mutual_partial_correctness _ _ _ _ _ _ _ _ ?_ ?_ ?_ ?_ ?_ ?_ ?_ ?_
 ·intro F1 ih1 c in1 most
  show Ok _ _ _
  have ih1 : ∀ (in1 : List A1) (c1 : A2) (most : Int) (r : ByteArray × A2) (nDecls : List (A1)), Ok (F1 in1 c1 most r nDecls) _ _ := ih1
  rw [A9 AF (fn := Nk) rfl (xN rfl rfl _) (lB rfl)]
  have k0 := @Nk.eq_1; have g0 := BR; have g1 := E2; have g2 := Qv; have t0 := ih1
  exact gs
 ·intro F2 ih2 in1 c1 most r nDecls
  show Ok _ _ _
  have ih2 : ∀ (r3 : List A1) (c2 : A2) (most : Int) (nPre : ByteArray) (r : ByteArray × A2) (nDecls : List (A1)), Ok (F2 r3 c2 most nPre r nDecls) _ _ := ih2
  have k0 := @N9.eq_1; have g0 := T9; have g1 := E2; have g2 := BR; have t0 := ih2
  exact gs
 ·intro F3 ih3 r3 c2 most nPre r nDecls
  show Ok _ _ _
  have ih3 : ∀ (r3 : List A1) (u : ByteArray) (c2 : A2) (most : Int) (nPre1 : ByteArray) (r : ByteArray × A2) (nDecls : List (A1)), Ok (F3 r3 u c2 most nPre1 r nDecls) _ _ := ih3
  have k0 := @Lo.eq_1; have g0 := Hi; have t0 := ih3
  exact gs
 ·intro F4 ih4 r3 u c2 most nPre1 r nDecls
  show Ok _ _ _
  have ih4 : ∀ (r3 : List A1) (i1 : Int) (c4 : A2) (most : Int) (nPre1 : ByteArray) (r : ByteArray × A2) (u : ByteArray) (nDecls : List (A1)) (nAttrs : List (A3)), Ok (F4 r3 i1 c4 most nPre1 r u nDecls nAttrs) _ _ := ih4
  have k0 := @Ln.eq_1; have g0 := BA; have t0 := ih4
  exact gs
 ·intro F5 F7 ih5 ih7 r3 i1 c4 most nPre1 r u nDecls nAttrs
  show Ok _ _ _
  have ih7 : ∀ (r3 : List A1) (i1 : Int) (r31 : ByteArray × A2) (most : Int) (nPre1 : ByteArray) (r : ByteArray × A2) (u : ByteArray) (nDecls : List (A1)) (nAttrs : List (A3)) (a1 : A3), Ok (F7 r3 i1 r31 most nPre1 r u nDecls nAttrs a1) _ _ := ih7
  have ih5 : ∀ (r3 : List A1) (i2 : Int) (c5 : A2) (most2 : Int) (nPre1 : ByteArray) (r : ByteArray × A2) (u : ByteArray) (nDecls : List (A1)) (nAttrs : List (A3)) (nKids1 : List (A0)), Ok (F5 r3 i2 c5 most2 nPre1 r u nDecls nAttrs nKids1) _ _ := ih5
  rw [Aa]
  have k0 := @HV.eq_1; have k1 := @HY.eq_1; have g0 := BR; have g1 := bI; have g2 := Hi; have g3 := BA; have t0 := ih7; have t1 := ih5
  exact gs
 ·intro F6 ih6 r3 i2 c5 most2 nPre1 r u nDecls nAttrs nKids1
  show Ok _ _ _
  have ih6 : ∀ (r3 : List A1) (i2 : Int) (r42 : Int × A2) (x5 : Bool) (most2 : Int) (nPre1 : ByteArray) (r : ByteArray × A2) (u : ByteArray) (nDecls : List (A1)) (nAttrs : List (A3)) (nKids1 : List (A0)), Ok (F6 r3 i2 r42 x5 most2 nPre1 r u nDecls nAttrs nKids1) _ _ := ih6
  rw [Aa]
  have k0 := @HW.eq_1; have k1 := @HX.eq_1; have g0 := BA; have g1 := bJ; have t0 := ih6
  exact gs
 ·intro F0 F5 ih0 ih5 r3 i2 r42 x5 most2 nPre1 r u nDecls nAttrs nKids1
  show Ok _ _ _
  have ih0 : ∀ (c : A2) (in1 : List A1) (most : Int), Ok (F0 c in1 most) _ _ := ih0
  have ih5 : ∀ (r3 : List A1) (i2 : Int) (c5 : A2) (most2 : Int) (nPre1 : ByteArray) (r : ByteArray × A2) (u : ByteArray) (nDecls : List (A1)) (nAttrs : List (A3)) (nKids1 : List (A0)), Ok (F5 r3 i2 c5 most2 nPre1 r u nDecls nAttrs nKids1) _ _ := ih5
  have k0 := @Ll.eq_1; have k1 := @Lm.eq_1; have g0 := BR; have g1 := ih0; have t0 := ih5
  exact gs
 ·intro F4 ih4 r3 i1 r31 most nPre1 r u nDecls nAttrs a1
  show Ok _ _ _
  have ih4 : ∀ (r3 : List A1) (i1 : Int) (c4 : A2) (most : Int) (nPre1 : ByteArray) (r : ByteArray × A2) (u : ByteArray) (nDecls : List (A1)) (nAttrs : List (A3)), Ok (F4 r3 i1 c4 most nPre1 r u nDecls nAttrs) _ _ := ih4
  have k0 := @Lj.eq_1; have k1 := @Lk.eq_1; have g0 := Qw; have t0 := ih4
  exact gs
theorem fS (c : A2) (in1 : List A1) (most : Int) : Ok (FI c in1 most) Dg (dn AF Nd [.lp [.sl false (c.xb.map (rK .u8)), .v (.int .i64 c.xi), .v (.int .i64 c.xh)] 0, .t (.sl false (in1.map A1.row)), .lp [.v (.int .i64 most)] 0]) := ib.1 c in1 most
theorem Ym : (∀ (n : A0), Ok (Aw n) Ja (dn AF Ig [.agg (((A0.row false) n).map .t)])) ∧
  (∀ (k : Int) (i : Int) (n : A0), Ok (Ad k i n) Ja (ev AF Qf (.loop Iz) [.lv 0, .th J0] (Bk (List.replicate 25 .dead) [(1, .ptr (1, 0) [] 0 0 1 0), (3, .t (.v (.int .i64 k))), (4, .t (.v (.int .i64 i)))]) (Bm (List.replicate 25 []) [(1, [.mem [[.v (.int .i64 n.Kind), .v (.string n.Pre), .v (.string n.Local), .v (.string n.Uri), .sl false (n.Decls.map A1.row), .sl false (n.Attrs.map A3.row), .sl false (n.Kids.map (A0.row false)), .v (.string n.Text)]] 0 false])]))) := by
 unfold Ok
 refine Aw.mutual_partial_correctness _ _ ?_ ?_
 ·intro F1 ih1 n
  show Ok _ _ _
  have ih1 : ∀ (k : Int) (i : Int) (n : A0), Ok (F1 k i n) _ _ := ih1
  rw [A9 AF (fn := J1) rfl (xN rfl rfl _) (lB rfl)]
  have k0 := @J1.eq_1; have t0 := ih1
  exact gs
 ·intro F0 F1 ih0 ih1 k i n
  show Ok _ _ _
  have ih0 : ∀ (n : A0), Ok (F0 n) _ _ := ih0
  have ih1 : ∀ (k : Int) (i : Int) (n : A0), Ok (F1 k i n) _ _ := ih1
  rw [Aa]
  have k0 := @Iz.eq_1; have k1 := @J0.eq_1; have g0 := ih0; have t0 := ih1
  exact gs
theorem XL (n : A0) : Ok (Aw n) Ja (dn AF Ig [.agg (((A0.row false) n).map .t)]) := Ym.1 n
end TT
