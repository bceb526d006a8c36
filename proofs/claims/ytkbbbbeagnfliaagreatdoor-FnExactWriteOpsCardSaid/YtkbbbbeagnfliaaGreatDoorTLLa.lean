import Derived.Test.YtkbbbbeagnfliaaGreatDoorTKK
import Derived.Test.YtkbbbbeagnfliaaGreatDoorTDefs
set_option maxHeartbeats 2000000
set_option linter.unusedVariables false
set_option linter.unusedSimpArgs false
set_option linter.defProp false
set_option maxRecDepth 100000
namespace TT
open Go
open Nat (reduceAdd reduceSub reduceMul reduceLeDiff reduceLT reduceEqDiff)
def av (r:Int):Ay:=⟨[.t (.v (.int .i64 r))],[]⟩
def pK : Cx:=⟨2,[0,0],[.tmp 4]⟩
def Tn (r:Int):Ay:=⟨[.t (.v (.int .i64 r))],[]⟩
def YC : Cx:=⟨2,[0,0],[.tmp 4]⟩
def aw (r:Int):Ay:=⟨[.t (.v (.int .i64 r))],[]⟩
def pL : Cx:=⟨2,[0,0],[.tmp 4]⟩
def To (r:Int):Ay:=⟨[.t (.v (.int .i64 r))],[]⟩
def YD : Cx:=⟨2,[0,0],[.tmp 4]⟩
def dk (r:Int):Ay:=⟨[.t (.v (.int .i64 r))],[]⟩
def uV : Cx:=⟨2,[0,0],[.tmp 4]⟩
def ax (r:Int):Ay:=⟨[.t (.v (.int .i64 r))],[]⟩
def pM : Cx:=⟨2,[0,0],[.tmp 4]⟩
def Tp (r:Int):Ay:=⟨[.t (.v (.int .i64 r))],[]⟩
def YE : Cx:=⟨2,[0,0],[.tmp 4]⟩
def ay (r:Int):Ay:=⟨[.t (.v (.int .i64 r))],[]⟩
def pN : Cx:=⟨2,[0,0],[.tmp 4]⟩
def Tq (r:Int):Ay:=⟨[.t (.v (.int .i64 r))],[]⟩
def YF : Cx:=⟨2,[0,0],[.tmp 4]⟩
def Uz (r:Int):Ay:=⟨[.t (.v (.int .i64 r))],[]⟩
def pO : Cx:=⟨2,[0,0],[.tmp 4]⟩
def Oj (r:Int):Ay:=⟨[.t (.v (.int .i64 r))],[]⟩
def YG : Cx:=⟨2,[0,0],[.tmp 4]⟩
def iM (r:Int):Ay:=⟨[.t (.v (.int .i64 r))],[]⟩
def xI : Cx:=⟨2,[0,0],[.tmp 4]⟩
def WL (r:Int):Ay:=⟨[.t (.v (.int .i64 r))],[]⟩
def dl : Cx:=⟨2,[0,0],[.tmp 4]⟩
def az (r:GPred):Ay:=⟨[.agg [.v (.int .i64 r.Kind), .v (.int .i64 r.N), .v (.string r.Pre), .v (.string r.Local), .v (.string r.Val)]],[]⟩
def pP : Cx:=⟨1,[0],[.cell 2 5 true]⟩
def Tr (r:List GPred):Ay:=⟨[.t (.sl true (r.map GPred.row))],[]⟩
def YH : Cx:=⟨1,[0],[.tmp 2]⟩
def b6 (r:GStp):Ay:=⟨[.agg [.v (.bool r.Deep), .v (.int .i64 r.Kind), .v (.string r.Pre), .v (.string r.Local), .sl true (r.Preds.map GPred.row)]],[]⟩
def pQ : Cx:=⟨1,[0],[.cell 2 5 true]⟩
def Ts (r:List GStp):Ay:=⟨[.t (.sl true (r.map (GStp.row true)))],[]⟩
def YI : Cx:=⟨1,[0],[.tmp 2]⟩
def dm (r:GSel):Ay:=⟨[.agg [.v (.string r.Id), .sl true (r.Steps.map (GStp.row true))]],[]⟩
def uW : Cx:=⟨1,[0],[.cell 2 2 true]⟩
def b7 (r:GDecl):Ay:=⟨[.agg [.v (.string r.Pre), .v (.string r.Uri)]],[]⟩
def pR : Cx:=⟨1,[0],[.cell 2 2 true]⟩
def Tt (r:List GDecl):Ay:=⟨[.t (.sl true (r.map GDecl.row))],[]⟩
def YJ : Cx:=⟨1,[0],[.tmp 2]⟩
def b8 (r:GAttr):Ay:=⟨[.agg [.v (.string r.Pre), .v (.string r.Local), .v (.string r.Uri), .v (.string r.Val)]],[]⟩
def pS : Cx:=⟨1,[0],[.cell 2 4 true]⟩
def Tu (r:List GAttr):Ay:=⟨[.t (.sl true (r.map GAttr.row))],[]⟩
def YK : Cx:=⟨1,[0],[.tmp 2]⟩
def V0 (r:GNode):Ay:=⟨[.agg [.v (.int .i64 r.Kind), .v (.string r.Pre), .v (.string r.Local), .v (.string r.Uri), .sl true (r.Decls.map GDecl.row), .sl true (r.Attrs.map GAttr.row), .sl true (r.Kids.map (GNode.row true)), .v (.string r.Text)]],[]⟩
def pT : Cx:=⟨1,[0],[.cell 2 8 true]⟩
def Ol (r:List GNode):Ay:=⟨[.t (.sl true (r.map (GNode.row true)))],[]⟩
def YL : Cx:=⟨1,[0],[.tmp 2]⟩
def iN (r:GOp):Ay:=⟨[.agg [.v (.int .i64 r.Kind), .v (.string r.Sel.Id), .sl true (r.Sel.Steps.map (GStp.row true)), .v (.int .i64 r.Pos), .v (.int .i64 r.Typ), .v (.string r.Pre), .v (.string r.Local), .v (.int .i64 r.Ws), .sl true (r.Kids.map (GNode.row true)), .sl true (r.Decls.map GDecl.row)]],[]⟩
def xJ : Cx:=⟨1,[0],[.cell 2 10 true]⟩
def WM (r:List GOp):Ay:=⟨[.t (.sl true (r.map (GOp.row true)))],[]⟩
def dq : Cx:=⟨1,[0],[.tmp 2]⟩
def iO (r:Bool):Ay:=⟨[.t (.v (.bool r))],[]⟩
def xK : Cx:=⟨3,[0,0,0],[.tmp 6]⟩
def IL (r:Int×Int×Bool):Ay:=⟨[.t (.v (.int .i64 r.1)), .t (.v (.int .i64 r.2.1)), .t (.v (.bool r.2.2))],[]⟩
def KO : Cx:=⟨2,[0,0],[.tmp 4, .tmp 5, .tmp 6]⟩
def Ru (r:Bool):Ay:=⟨[.t (.v (.bool r))],[]⟩
def Wu : Cx:=⟨2,[0,0],[.tmp 4]⟩
def YM (r:Bool):Ay:=⟨[.t (.v (.bool r))],[]⟩
def lw : Cx:=⟨1,[0],[.tmp 2]⟩
def b9 (r:Bool):Ay:=⟨[.t (.v (.bool r))],[]⟩
def pU : Cx:=⟨1,[0],[.tmp 2]⟩
def Tv (r:Bool):Ay:=⟨[.t (.v (.bool r))],[]⟩
def YN : Cx:=⟨1,[0],[.tmp 2]⟩
def Px (r:ByteArray×ByteArray×Bool):Ay:=⟨[.t (.v (.string r.1)), .t (.v (.string r.2.1)), .t (.v (.bool r.2.2))],[]⟩
def Vi : Cx:=⟨1,[0],[.tmp 2, .tmp 3, .tmp 4]⟩
def Rv (r:ByteArray):Ay:=⟨[.t (.v (.string r))],[]⟩
def Wv : Cx:=⟨2,[0,0],[.tmp 4]⟩
def bA (r:Bool):Ay:=⟨[.t (.v (.bool r))],[]⟩
def pV : Cx:=⟨1,[0],[.tmp 2]⟩
def Tw (r:Bool):Ay:=⟨[.t (.v (.bool r))],[]⟩
def YO : Cx:=⟨1,[0],[.tmp 2]⟩
def bB (r:Bool):Ay:=⟨[.t (.v (.bool r))],[]⟩
def pW : Cx:=⟨1,[0],[.tmp 2]⟩
def WN (r:Bool):Ay:=⟨[.t (.v (.bool r))],[]⟩
def dt : Cx:=⟨2,[0,0],[.tmp 4]⟩
def bC (r:Bool):Ay:=⟨[.t (.v (.bool r))],[]⟩
def pX : Cx:=⟨1,[0],[.tmp 2]⟩
def Py (r:Bool):Ay:=⟨[.t (.v (.bool r))],[]⟩
def Vj : Cx:=⟨2,[0,0],[.tmp 4]⟩
def Fk (r:Bool):Ay:=⟨[.t (.v (.bool r))],[]⟩
def Ha : Cx:=⟨2,[0,0],[.tmp 4]⟩
def WO (r:Bool):Ay:=⟨[.t (.v (.bool r))],[]⟩
def du : Cx:=⟨1,[0],[.tmp 2]⟩
def dv (r:Bool):Ay:=⟨[.t (.v (.bool r))],[]⟩
def uX : Cx:=⟨1,[0],[.tmp 2]⟩
def V1 (r:Bool):Ay:=⟨[.t (.v (.bool r))],[]⟩
def bD : Cx:=⟨1,[0],[.tmp 2]⟩
def Om (r:Int):Ay:=⟨[.t (.v (.int .i64 r))],[]⟩
def YP : Cx:=⟨1,[0],[.tmp 2]⟩
def dw (r:Bool):Ay:=⟨[.t (.v (.bool r))],[]⟩
def uY : Cx:=⟨1,[0],[.tmp 2]⟩
def Tx (r:Bool):Ay:=⟨[.t (.v (.bool r))],[]⟩
def YQ : Cx:=⟨1,[0],[.tmp 2]⟩
def bE (r:Bool):Ay:=⟨[.t (.v (.bool r))],[]⟩
def pY : Cx:=⟨1,[0],[.tmp 2]⟩
def dz (r:Bool):Ay:=⟨[.t (.v (.bool r))],[]⟩
def uZ : Cx:=⟨1,[0],[.tmp 2]⟩
def YR (r:Bool):Ay:=⟨[.t (.v (.bool r))],[]⟩
def ly : Cx:=⟨1,[0],[.tmp 2]⟩
def Rw (r:Bool):Ay:=⟨[.t (.v (.bool r))],[]⟩
def Ww : Cx:=⟨1,[0],[.tmp 2]⟩
def bF (r:Bool):Ay:=⟨[.t (.v (.bool r))],[]⟩
def pZ : Cx:=⟨2,[0,0],[.tmp 4]⟩
def T7 (r:Bool):Ay:=⟨[.t (.v (.bool r))],[]⟩
def WP : Cx:=⟨1,[0],[.tmp 2]⟩
def KP (r:Bool):Ay:=⟨[.t (.v (.bool r))],[]⟩
def V2 : Cx:=⟨2,[0,0],[.tmp 4]⟩
def R1 (r:Bool):Ay:=⟨[.t (.v (.bool r))],[]⟩
def V3 : Cx:=⟨1,[0],[.tmp 2]⟩
def e9 (r:List GDecl):Ay:=⟨[.t (.sl true (r.map GDecl.row))],[]⟩
def ua : Cx:=⟨2,[0,0],[.tmp 4]⟩
def Ty (r:ByteArray×Bool):Ay:=⟨[.t (.v (.string r.1)), .t (.v (.bool r.2))],[]⟩
def YS : Cx:=⟨2,[0,0],[.tmp 4, .tmp 5]⟩
def IM (r:Bool):Ay:=⟨[.t (.v (.bool r))],[]⟩
def R2 : Cx:=⟨2,[0,0],[.tmp 4]⟩
def Mb (r:Bool):Ay:=⟨[.t (.v (.bool r))],[]⟩
def RH : Cx:=⟨1,[0],[.tmp 2]⟩
def Wx (r:ByteArray):Ay:=⟨[.t (.v (.string r))],[]⟩
def ik : Cx:=⟨1,[0],[.tmp 2]⟩
def V4 (r:ByteArray):Ay:=⟨[.t (.v (.string r))],[]⟩
def bG : Cx:=⟨1,[0],[.tmp 2]⟩
def YT (r:ByteArray):Ay:=⟨[.t (.v (.string r))],[]⟩
def lz : Cx:=⟨1,[0],[.tmp 2]⟩
def On (r:ByteArray):Ay:=⟨[.t (.v (.string r))],[]⟩
def Tz : Cx:=⟨1,[0],[.tmp 2]⟩
def Oo (r:ByteArray):Ay:=⟨[.t (.v (.string r))],[]⟩
def U0 : Cx:=⟨1,[0],[.tmp 2]⟩
def Ku (r:List GDecl):Ay:=⟨[.t (.sl true (r.map GDecl.row))],[]⟩
def Rx : Cx:=⟨1,[0],[.tmp 2]⟩
def T8 (r:List GNode):Ay:=⟨[.t (.sl true (r.map (GNode.row true)))],[]⟩
def eA : Cx:=⟨1,[0],[.tmp 2]⟩
def V5 (r:GNode):Ay:=⟨[.agg [.v (.int .i64 r.Kind), .v (.string r.Pre), .v (.string r.Local), .v (.string r.Uri), .sl true (r.Decls.map GDecl.row), .sl true (r.Attrs.map GAttr.row), .sl true (r.Kids.map (GNode.row true)), .v (.string r.Text)]],[]⟩
def pc : Cx:=⟨1,[0],[.cell 2 8 true]⟩
def Oq (r:List GAttr):Ay:=⟨[.t (.sl true (r.map GAttr.row))],[]⟩
def U1 : Cx:=⟨1,[0],[.tmp 2]⟩
def Ot (r:GNode):Ay:=⟨[.agg [.v (.int .i64 r.Kind), .v (.string r.Pre), .v (.string r.Local), .v (.string r.Uri), .sl true (r.Decls.map GDecl.row), .sl true (r.Attrs.map GAttr.row), .sl true (r.Kids.map (GNode.row true)), .v (.string r.Text)]],[]⟩
def U2 : Cx:=⟨1,[0],[.cell 2 8 true]⟩
def bH (r:Bool):Ay:=⟨[.t (.v (.bool r))],[]⟩
def pd : Cx:=⟨1,[0],[.tmp 2]⟩
def WQ (r:ByteArray):Ay:=⟨[.t (.v (.string r))],[]⟩
def eB : Cx:=⟨2,[0,0],[.tmp 4]⟩
def YU (r:ByteArray):Ay:=⟨[.t (.v (.string r))],[]⟩
def m9 : Cx:=⟨1,[0],[.tmp 2]⟩
def YV (r:ByteArray):Ay:=⟨[.t (.v (.string r))],[]⟩
def mA : Cx:=⟨1,[0],[.tmp 2]⟩
def G7 (r:ByteArray):Ay:=⟨[.t (.v (.string r))],[]⟩
def JI : Cx:=⟨1,[0],[.tmp 2]⟩
def Ry (r:ByteArray):Ay:=⟨[.t (.v (.string r))],[]⟩
def Wy : Cx:=⟨1,[0],[.tmp 2]⟩
def rt (r:Bool):Ay:=⟨[.t (.v (.bool r))],[]⟩
def A2G : Cx:=⟨3,[0,0,0],[.tmp 6]⟩
def Dg (r:Int×Int):Ay:=⟨[.t (.v (.int .i32 r.1)), .t (.v (.int .i64 r.2))],[]⟩
def Mf : Cx:=⟨1,[0],[.tmp 2, .tmp 3]⟩
def bI (r:Int×Int×Bool):Ay:=⟨[.t (.v (.int .i64 r.1)), .t (.v (.int .i64 r.2.1)), .t (.v (.bool r.2.2))],[]⟩
def pe : Cx:=⟨2,[0,0],[.tmp 4, .tmp 5, .tmp 6]⟩
def YW (r:Bool×Int):Ay:=⟨[.t (.v (.bool r.1))],[some [[.v (.int .i64 r.2)]]]⟩
def mB : Cx:=⟨2,[0,1],[.tmp 3]⟩
def Dt (r:Int×Int):Ay:=⟨[.t (.v (.int .i64 r.1))],[some [[.v (.int .i64 r.2)]]]⟩
def Gk : Cx:=⟨2,[0,1],[.tmp 4]⟩
def FY (r:Bool×Int):Ay:=⟨[.t (.v (.bool r.1))],[some [[.v (.int .i64 r.2)]]]⟩
def KQ : Cx:=⟨2,[0,1],[.tmp 4]⟩
def eC (r:Bool):Ay:=⟨[.t (.v (.bool r))],[]⟩
def ub : Cx:=⟨2,[0,0],[.tmp 4]⟩
def YX (r:Bool):Ay:=⟨[.t (.v (.bool r))],[]⟩
def mC : Cx:=⟨1,[0],[.tmp 2]⟩
def bJ (r:Bool):Ay:=⟨[.t (.v (.bool r))],[]⟩
def pf : Cx:=⟨1,[0],[.tmp 2]⟩
def U3 (r:Bool):Ay:=⟨[.t (.v (.bool r))],[]⟩
def YY : Cx:=⟨1,[0],[.tmp 2]⟩
def bK (r:Bool):Ay:=⟨[.t (.v (.bool r))],[]⟩
def pg : Cx:=⟨2,[0,0],[.tmp 4]⟩
def bL (r:Bool):Ay:=⟨[.t (.v (.bool r))],[]⟩
def ph : Cx:=⟨1,[0],[.tmp 2]⟩
def U4 (r:Bool):Ay:=⟨[.t (.v (.bool r))],[]⟩
def YZ : Cx:=⟨1,[0],[.tmp 2]⟩
def bM (r:Bool):Ay:=⟨[.t (.v (.bool r))],[]⟩
def pi : Cx:=⟨1,[0],[.tmp 2]⟩
def Lz (r:Bool):Ay:=⟨[.t (.v (.bool r))],[]⟩
def cF : Cx:=⟨2,[0,0],[.tmp 4]⟩
def eD (r:Bool):Ay:=⟨[.t (.v (.bool r))],[]⟩
def uc : Cx:=⟨1,[0],[.tmp 2]⟩
def KR (r:Bool):Ay:=⟨[.t (.v (.bool r))],[]⟩
def R3 : Cx:=⟨2,[0,0],[.tmp 4]⟩
def Wz (r:Bool×GStp):Ay:=⟨[.t (.v (.bool r.1))],[some [[.v (.bool r.2.Deep), .v (.int .i64 r.2.Kind), .v (.string r.2.Pre), .v (.string r.2.Local), .sl false (r.2.Preds.map GPred.row)]]]⟩
def il : Cx:=⟨2,[0,1],[.tmp 3]⟩
def Du (r:Int×GStp):Ay:=⟨[.t (.v (.int .i64 r.1))],[some [[.v (.bool r.2.Deep), .v (.int .i64 r.2.Kind), .v (.string r.2.Pre), .v (.string r.2.Local), .sl false (r.2.Preds.map GPred.row)]]]⟩
def Gl : Cx:=⟨2,[0,1],[.tmp 4]⟩
def FZ (r:Bool×GStp):Ay:=⟨[.t (.v (.bool r.1))],[some [[.v (.bool r.2.Deep), .v (.int .i64 r.2.Kind), .v (.string r.2.Pre), .v (.string r.2.Local), .sl false (r.2.Preds.map GPred.row)]]]⟩
def KS : Cx:=⟨2,[0,1],[.tmp 4]⟩
def R4 (r:Bool):Ay:=⟨[.t (.v (.bool r))],[]⟩
def V6 : Cx:=⟨2,[0,0],[.tmp 4]⟩
def WR (r:Bool):Ay:=⟨[.t (.v (.bool r))],[]⟩
def eE : Cx:=⟨1,[0],[.tmp 2]⟩
def UX (r:Bool×GDecl):Ay:=⟨[.t (.v (.bool r.1))],[some [[.v (.string r.2.Pre), .v (.string r.2.Uri)]]]⟩
def eF : Cx:=⟨2,[0,1],[.tmp 3]⟩
def DR (r:Int×GDecl):Ay:=⟨[.t (.v (.int .i64 r.1))],[some [[.v (.string r.2.Pre), .v (.string r.2.Uri)]]]⟩
def G8 : Cx:=⟨2,[0,1],[.tmp 4]⟩
def Ew (r:Bool×GDecl):Ay:=⟨[.t (.v (.bool r.1))],[some [[.v (.string r.2.Pre), .v (.string r.2.Uri)]]]⟩
def Jr : Cx:=⟨2,[0,1],[.tmp 4]⟩
def Rz (r:Bool):Ay:=⟨[.t (.v (.bool r))],[]⟩
def X0 : Cx:=⟨1,[0],[.tmp 2]⟩
def Gm (r:Bool):Ay:=⟨[.t (.v (.bool r))],[]⟩
def Ou : Cx:=⟨2,[0,0],[.tmp 4]⟩
def SG (r:Bool):Ay:=⟨[.t (.v (.bool r))],[]⟩
def Zc : Cx:=⟨2,[0,0],[.tmp 4]⟩
def eG (r:Bool):Ay:=⟨[.t (.v (.bool r))],[]⟩
def ud : Cx:=⟨1,[0],[.tmp 2]⟩
def eH (r:Bool):Ay:=⟨[.t (.v (.bool r))],[]⟩
def ue : Cx:=⟨2,[0,0],[.tmp 4]⟩
def bN (r:Bool):Ay:=⟨[.t (.v (.bool r))],[]⟩
def pj : Cx:=⟨1,[0],[.tmp 2]⟩
def bO (r:Bool):Ay:=⟨[.t (.v (.bool r))],[]⟩
def pk : Cx:=⟨1,[0],[.tmp 2]⟩
def EP (r:Int):Ay:=⟨[.t (.v (.int .i64 r))],[]⟩
def Hb : Cx:=⟨2,[0,0],[.tmp 4]⟩
def GD (r:Bool):Ay:=⟨[.t (.v (.bool r))],[]⟩
def Mg : Cx:=⟨2,[0,0],[.tmp 4]⟩
def Ov (r:Int):Ay:=⟨[.t (.v (.int .i64 r))],[]⟩
def Ya : Cx:=⟨1,[0],[.tmp 2]⟩
def Gn (r:Bool):Ay:=⟨[.t (.v (.bool r))],[]⟩
def Ow : Cx:=⟨2,[0,0],[.tmp 4]⟩
def SH (r:Bool):Ay:=⟨[.t (.v (.bool r))],[]⟩
def Zd : Cx:=⟨2,[0,0],[.tmp 4]⟩
def bP (r:Bool):Ay:=⟨[.t (.v (.bool r))],[]⟩
def pl : Cx:=⟨1,[0],[.tmp 2]⟩
def K5 (r:Bool):Ay:=⟨[.t (.v (.bool r))],[]⟩
def Ze : Cx:=⟨2,[0,0],[.tmp 4]⟩
def Yb (r:Bool):Ay:=⟨[.t (.v (.bool r))],[]⟩
def mD : Cx:=⟨1,[0],[.tmp 2]⟩
def bQ (r:Bool):Ay:=⟨[.t (.v (.bool r))],[]⟩
def pm : Cx:=⟨2,[0,0],[.tmp 4]⟩
def V7 (r:Bool):Ay:=⟨[.t (.v (.bool r))],[]⟩
def bR : Cx:=⟨1,[0],[.tmp 2]⟩
def U5 (r:Bool):Ay:=⟨[.t (.v (.bool r))],[]⟩
def Yc : Cx:=⟨1,[0],[.tmp 2]⟩
def bS (r:Bool):Ay:=⟨[.t (.v (.bool r))],[]⟩
def pn : Cx:=⟨1,[0],[.tmp 2]⟩
def Ox (r:Int):Ay:=⟨[.t (.v (.int .i64 r))],[]⟩
def eI : Cx:=⟨2,[0,0],[.tmp 4]⟩
def SI (r:Int):Ay:=⟨[.t (.v (.int .i64 r))],[]⟩
def Zf : Cx:=⟨2,[0,0],[.tmp 4]⟩
def U6 (r:Bool):Ay:=⟨[.t (.v (.bool r))],[]⟩
def Yd : Cx:=⟨1,[0],[.tmp 2]⟩
def Oy (r:Bool):Ay:=⟨[.t (.v (.bool r))],[]⟩
def UY : Cx:=⟨1,[0],[.tmp 2]⟩
def V8 (r:Bool):Ay:=⟨[.t (.v (.bool r))],[]⟩
def po : Cx:=⟨2,[0,0],[.tmp 4]⟩
def DH (r:Bool×Int):Ay:=⟨[.t (.v (.bool r.1))],[some [[.v (.int .i64 r.2)]]]⟩
def KT : Cx:=⟨2,[0,1],[.tmp 4]⟩
def CX (r:Int×Int):Ay:=⟨[.t (.v (.int .i64 r.1))],[some [[.v (.int .i64 r.2)]]]⟩
def Gp : Cx:=⟨2,[0,1],[.tmp 4]⟩
def S6 (r:Bool×Int):Ay:=⟨[.t (.v (.bool r.1))],[some [[.v (.int .i64 r.2)]]]⟩
def im : Cx:=⟨2,[0,1],[.tmp 3]⟩
def V9 (r:Bool):Ay:=⟨[.t (.v (.bool r))],[]⟩
def pq : Cx:=⟨2,[0,0],[.tmp 4]⟩
def VA (r:Int):Ay:=⟨[.t (.v (.int .i64 r))],[]⟩
def bT : Cx:=⟨2,[0,0],[.tmp 4]⟩
def VB (r:Bool):Ay:=⟨[.t (.v (.bool r))],[]⟩
def bU : Cx:=⟨1,[0],[.tmp 2]⟩
def bV (r:Bool):Ay:=⟨[.t (.v (.bool r))],[]⟩
def pr : Cx:=⟨2,[0,0],[.tmp 4]⟩
def S7 (r:Bool):Ay:=⟨[.t (.v (.bool r))],[]⟩
def X1 : Cx:=⟨1,[0],[.tmp 2]⟩
def VC (r:ByteArray×ByteArray×Bool):Ay:=⟨[.t (.v (.string r.1)), .t (.v (.string r.2.1)), .t (.v (.bool r.2.2))],[]⟩
def pt : Cx:=⟨2,[0,0],[.tmp 4, .tmp 5, .tmp 6]⟩
def Vk (r:ByteArray×ByteArray×Bool):Ay:=⟨[.t (.v (.string r.1)), .t (.v (.string r.2.1)), .t (.v (.bool r.2.2))],[]⟩
def fc : Cx:=⟨1,[0],[.tmp 2, .tmp 3, .tmp 4]⟩
def S8 (r:ByteArray):Ay:=⟨[.t (.v (.string r))],[]⟩
def X2 : Cx:=⟨2,[0,0],[.tmp 4]⟩
def VD (r:Bool):Ay:=⟨[.t (.v (.bool r))],[]⟩
def bW : Cx:=⟨1,[0],[.tmp 2]⟩
def Ye (r:Bool):Ay:=⟨[.t (.v (.bool r))],[]⟩
def iP : Cx:=⟨1,[0],[.tmp 2]⟩
def Vl (r:ByteArray):Ay:=⟨[.t (.v (.string r))],[]⟩
def fe : Cx:=⟨1,[0],[.tmp 2]⟩
def X3 (r:ByteArray):Ay:=⟨[.t (.v (.string r))],[]⟩
def io : Cx:=⟨1,[0],[.tmp 2]⟩
def U7 (r:ByteArray):Ay:=⟨[.t (.v (.string r))],[]⟩
def mE : Cx:=⟨1,[0],[.tmp 2]⟩
def X4 (r:ByteArray):Ay:=⟨[.t (.v (.string r))],[]⟩
def iq : Cx:=⟨1,[0],[.tmp 2]⟩
def Hc (r:ByteArray):Ay:=⟨[.t (.v (.string r))],[]⟩
def JJ : Cx:=⟨1,[0],[.tmp 2]⟩
def Yf (r:List ByteArray):Ay:=⟨[.t (.sl true (r.map rS))],[]⟩
def mF : Cx:=⟨0,[],[.tmp 0]⟩
def SJ (r:List GDecl):Ay:=⟨[.t (.sl true (r.map GDecl.row))],[]⟩
def SK : Cx:=⟨1,[0],[.tmp 2]⟩
def SL (r:List GAttr):Ay:=⟨[.t (.sl true (r.map GAttr.row))],[]⟩
def SM : Cx:=⟨1,[0],[.tmp 2]⟩
def Pz (r:GNode):Ay:=⟨[.agg [.v (.int .i64 r.Kind), .v (.string r.Pre), .v (.string r.Local), .v (.string r.Uri), .sl true (r.Decls.map GDecl.row), .sl true (r.Attrs.map GAttr.row), .sl true (r.Kids.map (GNode.row true)), .v (.string r.Text)]],[]⟩
def ff : Cx:=⟨1,[0],[.cell 2 8 true]⟩
def Ic (r:List GNode):Ay:=⟨[.t (.sl true (r.map (GNode.row true)))],[]⟩
def UZ : Cx:=⟨1,[0],[.tmp 2]⟩
def Ie (r:Int):Ay:=⟨[.t (.v (.int .i64 r))],[]⟩
def Oz : Cx:=⟨1,[0],[.tmp 2]⟩
def X5 (r:Int):Ay:=⟨[.t (.v (.int .i64 r))],[]⟩
def ir : Cx:=⟨1,[0],[.tmp 2]⟩
def U8 (r:Int):Ay:=⟨[.t (.v (.int .i64 r))],[]⟩
def cH : Cx:=⟨2,[0,0],[.tmp 4]⟩
def BF (r:List (GDecl)):Ay:=⟨[],[some (r.map GDecl.row)]⟩
def Bi : Cx:=⟨4,[1,0,0,0],[]⟩
def CT (r:List (GDecl)):Ay:=⟨[],[some (r.map GDecl.row)]⟩
def ED : Cx:=⟨5,[1,0,0,0,0],[]⟩
def G9 (r:List (GDecl)):Ay:=⟨[],[some (r.map GDecl.row)]⟩
def M0 : Cx:=⟨2,[1,0],[]⟩
def Yg (r:ByteArray×Bool):Ay:=⟨[.t (.v (.string r.1)), .t (.v (.bool r.2))],[]⟩
def mG : Cx:=⟨2,[0,0],[.cell 4 1 false, .cell 5 1 false]⟩
def X6 (r:List ByteArray):Ay:=⟨[.t (.sl true (r.map rS))],[]⟩
def it : Cx:=⟨0,[],[.tmp 0]⟩
def U9 (r:GNode):Ay:=⟨[],[some [[.v (.int .i64 r.Kind), .v (.string r.Pre), .v (.string r.Local), .v (.string r.Uri), .sl true (r.Decls.map GDecl.row), .sl true (r.Attrs.map GAttr.row), .sl true (r.Kids.map (GNode.row true)), .v (.string r.Text)]]]⟩
def cJ : Cx:=⟨3,[0,0,1],[]⟩
def SN (r:GNode):Ay:=⟨[],[some [[.v (.int .i64 r.Kind), .v (.string r.Pre), .v (.string r.Local), .v (.string r.Uri), .sl true (r.Decls.map GDecl.row), .sl true (r.Attrs.map GAttr.row), .sl true (r.Kids.map (GNode.row true)), .v (.string r.Text)]]]⟩
def Zg : Cx:=⟨3,[0,0,1],[]⟩
def Yh (r:List ByteArray):Ay:=⟨[.t (.sl true (r.map rS))],[]⟩
def mH : Cx:=⟨0,[],[.tmp 0]⟩
def Vm (r:GNode):Ay:=⟨[.agg [.v (.int .i64 r.Kind), .v (.string r.Pre), .v (.string r.Local), .v (.string r.Uri), .sl true (r.Decls.map GDecl.row), .sl true (r.Attrs.map GAttr.row), .sl true (r.Kids.map (GNode.row true)), .v (.string r.Text)]],[]⟩
def fh : Cx:=⟨1,[0],[.cell 2 8 true]⟩
def bX (r:Bool):Ay:=⟨[.t (.v (.bool r))],[]⟩
def pu : Cx:=⟨1,[0],[.tmp 2]⟩
def JK (r:ByteArray):Ay:=⟨[.t (.v (.string r))],[]⟩
def Yi : Cx:=⟨3,[0,0,0],[.tmp 6]⟩
def Yj (r:ByteArray):Ay:=⟨[.t (.v (.string r))],[]⟩
def mI : Cx:=⟨1,[0],[.tmp 2]⟩
def Yk (r:ByteArray):Ay:=⟨[.t (.v (.string r))],[]⟩
def mJ : Cx:=⟨1,[0],[.tmp 2]⟩
def X7 (r:ByteArray):Ay:=⟨[.t (.v (.string r))],[]⟩
def iu : Cx:=⟨1,[0],[.tmp 2]⟩
def Hd (r:ByteArray):Ay:=⟨[.t (.v (.string r))],[]⟩
def P0 : Cx:=⟨1,[0],[.tmp 2]⟩
def S9 (r:ByteArray):Ay:=⟨[.t (.v (.string r))],[]⟩
def X8 : Cx:=⟨1,[0],[.tmp 2]⟩
def bY (r:Bool):Ay:=⟨[.t (.v (.bool r))],[]⟩
def pv : Cx:=⟨2,[0,0],[.tmp 4]⟩
def UA (r:Bool):Ay:=⟨[.t (.v (.bool r))],[]⟩
def Yl : Cx:=⟨2,[0,0],[.tmp 4]⟩
def bZ (r:Bool):Ay:=⟨[.t (.v (.bool r))],[]⟩
def pw : Cx:=⟨2,[0,0],[.tmp 4]⟩
def UB (r:Bool):Ay:=⟨[.t (.v (.bool r))],[]⟩
def Ym : Cx:=⟨2,[0,0],[.tmp 4]⟩
def eJ (r:Bool):Ay:=⟨[.t (.v (.bool r))],[]⟩
def uf : Cx:=⟨2,[0,0],[.tmp 4]⟩
def ba (r:Bool):Ay:=⟨[.t (.v (.bool r))],[]⟩
def pz : Cx:=⟨2,[0,0],[.tmp 4]⟩
def UC (r:Bool):Ay:=⟨[.t (.v (.bool r))],[]⟩
def Yn : Cx:=⟨2,[0,0],[.tmp 4]⟩
def bc (r:Bool):Ay:=⟨[.t (.v (.bool r))],[]⟩
def q9 : Cx:=⟨2,[0,0],[.tmp 4]⟩
def UD (r:Bool):Ay:=⟨[.t (.v (.bool r))],[]⟩
def Yo : Cx:=⟨2,[0,0],[.tmp 4]⟩
def VE (r:Bool):Ay:=⟨[.t (.v (.bool r))],[]⟩
def qA : Cx:=⟨2,[0,0],[.tmp 4]⟩
def P2 (r:Bool):Ay:=⟨[.t (.v (.bool r))],[]⟩
def Yp : Cx:=⟨2,[0,0],[.tmp 4]⟩
def iQ (r:Bool):Ay:=⟨[.t (.v (.bool r))],[]⟩
def xL : Cx:=⟨2,[0,0],[.tmp 4]⟩
def WS (r:Bool):Ay:=⟨[.t (.v (.bool r))],[]⟩
def eK : Cx:=⟨2,[0,0],[.tmp 4]⟩
def P4 (r:Bool):Ay:=⟨[.t (.v (.bool r))],[]⟩
def WT : Cx:=⟨1,[0],[.tmp 2]⟩
theorem lT {α:Type} (l:List α):((AF l).toNat<l.length+1)=True:=by simp[AF]
def ES := ai @lT<|ai (@av.eq_1)<|ai (@pK.eq_1)<|ai (@Tn.eq_1)<|ai (@YC.eq_1)<|ai (@aw.eq_1)<|ai (@pL.eq_1)<|ai (@To.eq_1)<|ai (@YD.eq_1)<|ai (@dk.eq_1)<|ai (@uV.eq_1)<|ai (@ax.eq_1)<|ai (@pM.eq_1)<|ai (@Tp.eq_1)<|ai (@YE.eq_1)<|ai (@ay.eq_1)<|ai (@pN.eq_1)<|ai (@Tq.eq_1)<|ai (@YF.eq_1)<|ai (@Uz.eq_1)<|ai (@pO.eq_1)<|ai (@Oj.eq_1)<|ai (@YG.eq_1)<|ai (@iM.eq_1)<|ai (@xI.eq_1)<|ai (@WL.eq_1)<|ai (@dl.eq_1)<|ai (@az.eq_1)<|ai (@pP.eq_1)<|ai (@Tr.eq_1)<|ai (@YH.eq_1)<|ai (@b6.eq_1)<|ai (@pQ.eq_1)<|ai (@Ts.eq_1)<|ai (@YI.eq_1)<|ai (@dm.eq_1)<|ai (@uW.eq_1)<|ai (@b7.eq_1)<|ai (@pR.eq_1)<|ai (@Tt.eq_1)<|ai (@YJ.eq_1)<|ai (@b8.eq_1)<|ai (@pS.eq_1)<|ai (@Tu.eq_1)<|ai (@YK.eq_1)<|ai (@V0.eq_1)<|ai (@pT.eq_1)<|ai (@Ol.eq_1)<|ai (@YL.eq_1)<|ai (@iN.eq_1)<|ai (@xJ.eq_1)<|ai (@WM.eq_1)<|ai (@dq.eq_1)<|ai (@iO.eq_1)<|ai (@xK.eq_1)<|ai (@IL.eq_1)<|ai (@KO.eq_1)<|ai (@Ru.eq_1)<|ai (@Wu.eq_1)<|ai (@YM.eq_1)<|ai (@lw.eq_1)<|ai (@b9.eq_1)<|ai (@pU.eq_1)<|ai (@Tv.eq_1)<|ai (@YN.eq_1)<|ai (@Px.eq_1)<|ai (@Vi.eq_1)<|ai (@Rv.eq_1)<|ai (@Wv.eq_1)<|ai (@bA.eq_1)<|ai (@pV.eq_1)<|ai (@Tw.eq_1)<|ai (@YO.eq_1)<|ai (@bB.eq_1)<|ai (@pW.eq_1)<|ai (@WN.eq_1)<|ai (@dt.eq_1)<|ai (@bC.eq_1)<|ai (@pX.eq_1)<|ai (@Py.eq_1)<|ai (@Vj.eq_1)<|ai (@Fk.eq_1)<|ai (@Ha.eq_1)<|ai (@WO.eq_1)<|ai (@du.eq_1)<|ai (@dv.eq_1)<|ai (@uX.eq_1)<|ai (@V1.eq_1)<|ai (@bD.eq_1)<|ai (@Om.eq_1)<|ai (@YP.eq_1)<|ai (@dw.eq_1)<|ai (@uY.eq_1)<|ai (@Tx.eq_1)<|ai (@YQ.eq_1)<|ai (@bE.eq_1)<|ai (@pY.eq_1)<|ai (@dz.eq_1)<|ai (@uZ.eq_1)<|ai (@YR.eq_1)<|ai (@ly.eq_1)<|ai (@Rw.eq_1)<|ai (@Ww.eq_1)<|ai (@bF.eq_1)<|ai (@pZ.eq_1)<|ai (@T7.eq_1)<|ai (@WP.eq_1)<|ai (@KP.eq_1)<|ai (@V2.eq_1)<|ai (@R1.eq_1)<|ai (@V3.eq_1)<|ai (@e9.eq_1)<|ai (@ua.eq_1)<|ai (@Ty.eq_1)<|ai (@YS.eq_1)<|ai (@IM.eq_1)<|ai (@R2.eq_1)<|ai (@Mb.eq_1)<|ai (@RH.eq_1)<|ai (@Wx.eq_1)<|ai (@ik.eq_1)<|ai (@V4.eq_1)<|ai (@bG.eq_1)<|ai (@YT.eq_1)<|ai (@lz.eq_1)<|ai (@On.eq_1)<|ai (@Tz.eq_1)<|ai (@Oo.eq_1)<|ai (@U0.eq_1)<|ai (@Ku.eq_1)<|ai (@Rx.eq_1)<|ai (@T8.eq_1)<|ai (@eA.eq_1)<|ai (@V5.eq_1)<|ai (@pc.eq_1)<|ai (@Oq.eq_1)<|ai (@U1.eq_1)<|ai (@Ot.eq_1)<|ai (@U2.eq_1)<|ai (@bH.eq_1)<|ai (@pd.eq_1)<|ai (@WQ.eq_1)<|ai (@eB.eq_1)<|ai (@YU.eq_1)<|ai (@m9.eq_1)<|ai (@YV.eq_1)<|ai (@mA.eq_1)<|ai (@G7.eq_1)<|ai (@JI.eq_1)<|ai (@Ry.eq_1)<|ai (@Wy.eq_1)<|ai (@rt.eq_1)<|ai (@A2G.eq_1)<|ai (@Dg.eq_1)<|ai (@Mf.eq_1)<|ai (@bI.eq_1)<|ai (@pe.eq_1)<|ai (@YW.eq_1)<|ai (@mB.eq_1)<|ai (@Dt.eq_1)<|ai (@Gk.eq_1)<|ai (@FY.eq_1)<|ai (@KQ.eq_1)<|ai (@eC.eq_1)<|ai (@ub.eq_1)<|ai (@YX.eq_1)<|ai (@mC.eq_1)<|ai (@bJ.eq_1)<|ai (@pf.eq_1)<|ai (@U3.eq_1)<|ai (@YY.eq_1)<|ai (@bK.eq_1)<|ai (@pg.eq_1)<|ai (@bL.eq_1)<|ai (@ph.eq_1)<|ai (@U4.eq_1)<|ai (@YZ.eq_1)<|ai (@bM.eq_1)<|ai (@pi.eq_1)<|ai (@Lz.eq_1)<|ai (@cF.eq_1)<|ai (@eD.eq_1)<|ai (@uc.eq_1)<|ai (@KR.eq_1)<|ai (@R3.eq_1)<|ai (@Wz.eq_1)<|ai (@il.eq_1)<|ai (@Du.eq_1)<|ai (@Gl.eq_1)<|ai (@FZ.eq_1)<|ai (@KS.eq_1)<|ai (@R4.eq_1)<|ai (@V6.eq_1)<|ai (@WR.eq_1)<|ai (@eE.eq_1)<|ai (@UX.eq_1)<|ai (@eF.eq_1)<|ai (@DR.eq_1)<|ai (@G8.eq_1)<|ai (@Ew.eq_1)<|ai (@Jr.eq_1)<|ai (@Rz.eq_1)<|ai (@X0.eq_1)<|ai (@Gm.eq_1)<|ai (@Ou.eq_1)<|ai (@SG.eq_1)<|ai (@Zc.eq_1)<|ai (@eG.eq_1)<|ai (@ud.eq_1)<|ai (@eH.eq_1)<|ai (@ue.eq_1)<|ai (@bN.eq_1)<|ai (@pj.eq_1)<|ai (@bO.eq_1)<|ai (@pk.eq_1)<|ai (@EP.eq_1)<|ai (@Hb.eq_1)<|ai (@GD.eq_1)<|ai (@Mg.eq_1)<|ai (@Ov.eq_1)<|ai (@Ya.eq_1)<|ai (@Gn.eq_1)<|ai (@Ow.eq_1)<|ai (@SH.eq_1)<|ai (@Zd.eq_1)<|ai (@bP.eq_1)<|ai (@pl.eq_1)<|ai (@K5.eq_1)<|ai (@Ze.eq_1)<|ai (@Yb.eq_1)<|ai (@mD.eq_1)<|ai (@bQ.eq_1)<|ai (@pm.eq_1)<|ai (@V7.eq_1)<|ai (@bR.eq_1)<|ai (@U5.eq_1)<|ai (@Yc.eq_1)<|ai (@bS.eq_1)<|ai (@pn.eq_1)<|ai (@Ox.eq_1)<|ai (@eI.eq_1)<|ai (@SI.eq_1)<|ai (@Zf.eq_1)<|ai (@U6.eq_1)<|ai (@Yd.eq_1)<|ai (@Oy.eq_1)<|ai (@UY.eq_1)<|ai (@V8.eq_1)<|ai (@po.eq_1)<|ai (@DH.eq_1)<|ai (@KT.eq_1)<|ai (@CX.eq_1)<|ai (@Gp.eq_1)<|ai (@S6.eq_1)<|ai (@im.eq_1)<|ai (@V9.eq_1)<|ai (@pq.eq_1)<|ai (@VA.eq_1)<|ai (@bT.eq_1)<|ai (@VB.eq_1)<|ai (@bU.eq_1)<|ai (@bV.eq_1)<|ai (@pr.eq_1)<|ai (@S7.eq_1)<|ai (@X1.eq_1)<|ai (@VC.eq_1)<|ai (@pt.eq_1)<|ai (@Vk.eq_1)<|ai (@fc.eq_1)<|ai (@S8.eq_1)<|ai (@X2.eq_1)<|ai (@VD.eq_1)<|ai (@bW.eq_1)<|ai (@Ye.eq_1)<|ai (@iP.eq_1)<|ai (@Vl.eq_1)<|ai (@fe.eq_1)<|ai (@X3.eq_1)<|ai (@io.eq_1)<|ai (@U7.eq_1)<|ai (@mE.eq_1)<|ai (@X4.eq_1)<|ai (@iq.eq_1)<|ai (@Hc.eq_1)<|ai (@JJ.eq_1)<|ai (@Yf.eq_1)<|ai (@mF.eq_1)<|ai (@SJ.eq_1)<|ai (@SK.eq_1)<|ai (@SL.eq_1)<|ai (@SM.eq_1)<|ai (@Pz.eq_1)<|ai (@ff.eq_1)<|ai (@Ic.eq_1)<|ai (@UZ.eq_1)<|ai (@Ie.eq_1)<|ai (@Oz.eq_1)<|ai (@X5.eq_1)<|ai (@ir.eq_1)<|ai (@U8.eq_1)<|ai (@cH.eq_1)<|ai (@BF.eq_1)<|ai (@Bi.eq_1)<|ai (@CT.eq_1)<|ai (@ED.eq_1)<|ai (@G9.eq_1)<|ai (@M0.eq_1)<|ai (@Yg.eq_1)<|ai (@mG.eq_1)<|ai (@X6.eq_1)<|ai (@it.eq_1)<|ai (@U9.eq_1)<|ai (@cJ.eq_1)<|ai (@SN.eq_1)<|ai (@Zg.eq_1)<|ai (@Yh.eq_1)<|ai (@mH.eq_1)<|ai (@Vm.eq_1)<|ai (@fh.eq_1)<|ai (@bX.eq_1)<|ai (@pu.eq_1)<|ai (@JK.eq_1)<|ai (@Yi.eq_1)<|ai (@Yj.eq_1)<|ai (@mI.eq_1)<|ai (@Yk.eq_1)<|ai (@mJ.eq_1)<|ai (@X7.eq_1)<|ai (@iu.eq_1)<|ai (@Hd.eq_1)<|ai (@P0.eq_1)<|ai (@S9.eq_1)<|ai (@X8.eq_1)<|ai (@bY.eq_1)<|ai (@pv.eq_1)<|ai (@UA.eq_1)<|ai (@Yl.eq_1)<|ai (@bZ.eq_1)<|ai (@pw.eq_1)<|ai (@UB.eq_1)<|ai (@Ym.eq_1)<|ai (@eJ.eq_1)<|ai (@uf.eq_1)<|ai (@ba.eq_1)<|ai (@pz.eq_1)<|ai (@UC.eq_1)<|ai (@Yn.eq_1)<|ai (@bc.eq_1)<|ai (@q9.eq_1)<|ai (@UD.eq_1)<|ai (@Yo.eq_1)<|ai (@VE.eq_1)<|ai (@qA.eq_1)<|ai (@P2.eq_1)<|ai (@Yp.eq_1)<|ai (@iQ.eq_1)<|ai (@xL.eq_1)<|ai (@WS.eq_1)<|ai (@eK.eq_1)<|ai (@P4.eq_1)<| @WT.eq_1
theorem xN {f:FuncId} (h:AI.cl.contains f=false) (h2:(AI.lb.all fun p=>p.1 != f)=true) (args:List M4):xOf AI f args=none:=A3W h h2 args
theorem lB {a b:Nat} (h:Nat.ble a b=true):a≤b:=Nat.le_of_ble_eq_true h
theorem gs {p:Prop} (h:p:=by
 try simp only[SSA,RS,reduceAdd,reduceSub,reduceMul,reduceLeDiff,reduceLT,reduceEqDiff,Nat.reduceBEq,↓reduceIte,reduceCtorEq]at g0
 try simp only[SSA,RS,reduceAdd,reduceSub,reduceMul,reduceLeDiff,reduceLT,reduceEqDiff,Nat.reduceBEq,↓reduceIte,reduceCtorEq]at g1
 try simp only[SSA,RS,reduceAdd,reduceSub,reduceMul,reduceLeDiff,reduceLT,reduceEqDiff,Nat.reduceBEq,↓reduceIte,reduceCtorEq]at g2
 try simp only[SSA,RS,reduceAdd,reduceSub,reduceMul,reduceLeDiff,reduceLT,reduceEqDiff,Nat.reduceBEq,↓reduceIte,reduceCtorEq]at g3
 try simp only[SSA,RS,reduceAdd,reduceSub,reduceMul,reduceLeDiff,reduceLT,reduceEqDiff,Nat.reduceBEq,↓reduceIte,reduceCtorEq]at g4
 try simp only[SSA,RS,reduceAdd,reduceSub,reduceMul,reduceLeDiff,reduceLT,reduceEqDiff,Nat.reduceBEq,↓reduceIte,reduceCtorEq]at g5
 try simp only[SSA,RS,reduceAdd,reduceSub,reduceMul,reduceLeDiff,reduceLT,reduceEqDiff,Nat.reduceBEq,↓reduceIte,reduceCtorEq]at g6
 try simp only[SSA,RS,reduceAdd,reduceSub,reduceMul,reduceLeDiff,reduceLT,reduceEqDiff,Nat.reduceBEq,↓reduceIte,reduceCtorEq]at g7
 try simp only[SSA,RS,reduceAdd,reduceSub,reduceMul,reduceLeDiff,reduceLT,reduceEqDiff,Nat.reduceBEq,↓reduceIte,reduceCtorEq]at g8
 try simp only[SSA,RS,reduceAdd,reduceSub,reduceMul,reduceLeDiff,reduceLT,reduceEqDiff,Nat.reduceBEq,↓reduceIte,reduceCtorEq]at g9
 try simp only[SSA,RS,reduceAdd,reduceSub,reduceMul,reduceLeDiff,reduceLT,reduceEqDiff,Nat.reduceBEq,↓reduceIte,reduceCtorEq]at g10
 simp only[SSA,RS,ES, *,reduceAdd,reduceSub,reduceMul,reduceLeDiff,reduceLT,reduceEqDiff,Nat.reduceBEq,↓reduceIte,reduceCtorEq]
 try clear k0
 try clear f0
 repeat' first
  |with_reducible exact A7J
  |((with_reducible refine yg ?_);first|rfl|simp only[SSA,RS,ES])
  |((with_reducible first
   |refine A0i (t0 ..) ?_
   |refine A0i (t1 ..) ?_);first|rfl|(simp only[SSA,RS,ES,reduceAdd,reduceSub,reduceMul,reduceLeDiff,reduceLT,reduceEqDiff,Nat.reduceBEq,↓reduceIte,reduceCtorEq]<;>rfl)|(simp only[SSA,RS,ES, *,reduceAdd,reduceSub,reduceMul,reduceLeDiff,reduceLT,reduceEqDiff,Nat.reduceBEq,↓reduceIte,reduceCtorEq]<;>rfl))
  |((first
   |(with_reducible first
    |refine ACg (fun h=> ?_) (fun h=> ?_)
    |refine ABp fun a h=> ?_
    |refine D8 (g0 ..) fun v=> ?_
    |refine D8 (g1 ..) fun v=> ?_
    |refine D8 (g2 ..) fun v=> ?_
    |refine D8 (g3 ..) fun v=> ?_
    |refine D8 (g4 ..) fun v=> ?_
    |refine D8 (g5 ..) fun v=> ?_
    |refine D8 (g6 ..) fun v=> ?_
    |refine D8 (g7 ..) fun v=> ?_
    |refine D8 (g8 ..) fun v=> ?_
    |refine D8 (g9 ..) fun v=> ?_
    |refine D8 (g10 ..) fun v=> ?_
    |refine D8 g0 fun v=> ?_
    |refine D8 g1 fun v=> ?_
    |refine D8 g2 fun v=> ?_
    |refine Ep (p:=Af _ _) fun a h=> ?_
    |refine Ep (p:=fU _) fun a h=> ?_
    |refine Ep (p:=room _ _) fun a h=> ?_
    |refine Ep (p:=mkN _ _) fun a h=> ?_
    |refine Ep (p:=PC _ _ _) fun a h=> ?_
    |refine Ep (p:=slL _ _ _) fun a h=> ?_
    |refine Ep (p:=atS _ _) fun a h=> ?_
    |refine Ep (p:=A1S _ _) fun a h=> ?_
    |refine Ep (p:=A1T _ _) fun a h=> ?_
    |refine Ep (p:=AAd _ _ _) fun a h=> ?_
    |refine Ep (p:=ADM _ _ _) fun a h=> ?_
    |refine Ep (p:=AAe _ _ _) fun a h=> ?_
    |refine Ep (p:=A1U _ _ _) fun a h=> ?_
    |refine A8i fun h=> ?_
    |refine Ep (p:=ABN _) fun a h=> ?_
    |refine Ep (p:=vwB _ _ _) fun a h=> ?_
    |refine Ep (p:=wT _ _ _) fun a h=> ?_)
   |refine D8 (g0 ..) fun v=> ?_
   |refine D8 (g1 ..) fun v=> ?_
   |refine D8 (g2 ..) fun v=> ?_
   |refine D8 (g3 ..) fun v=> ?_
   |refine D8 (g4 ..) fun v=> ?_
   |refine D8 (g5 ..) fun v=> ?_
   |refine D8 (g6 ..) fun v=> ?_
   |refine D8 (g7 ..) fun v=> ?_
   |refine D8 (g8 ..) fun v=> ?_
   |refine D8 (g9 ..) fun v=> ?_
   |refine D8 (g10 ..) fun v=> ?_
   |refine D6 (g0 _) (by simp only[SSA,RS,List.map_cons,List.map_nil]) fun v=> ?_
   |refine D6 (g0 _ _) (by simp only[SSA,RS,List.map_cons,List.map_nil]) fun v=> ?_
   |refine D6 (g1 _) (by simp only[SSA,RS,List.map_cons,List.map_nil]) fun v=> ?_
   |refine D6 (g1 _ _) (by simp only[SSA,RS,List.map_cons,List.map_nil]) fun v=> ?_
   |refine D6 (g2 _) (by simp only[SSA,RS,List.map_cons,List.map_nil]) fun v=> ?_
   |refine D6 (g2 _ _) (by simp only[SSA,RS,List.map_cons,List.map_nil]) fun v=> ?_
   |refine D6 (g3 _) (by simp only[SSA,RS,List.map_cons,List.map_nil]) fun v=> ?_
   |refine D6 (g3 _ _) (by simp only[SSA,RS,List.map_cons,List.map_nil]) fun v=> ?_
   |refine D6 (g4 _) (by simp only[SSA,RS,List.map_cons,List.map_nil]) fun v=> ?_
   |refine D6 (g4 _ _) (by simp only[SSA,RS,List.map_cons,List.map_nil]) fun v=> ?_
   |refine D6 (g5 _) (by simp only[SSA,RS,List.map_cons,List.map_nil]) fun v=> ?_
   |refine D6 (g5 _ _) (by simp only[SSA,RS,List.map_cons,List.map_nil]) fun v=> ?_
   |refine D6 (g6 _) (by simp only[SSA,RS,List.map_cons,List.map_nil]) fun v=> ?_
   |refine D6 (g6 _ _) (by simp only[SSA,RS,List.map_cons,List.map_nil]) fun v=> ?_
   |refine D6 (g7 _) (by simp only[SSA,RS,List.map_cons,List.map_nil]) fun v=> ?_
   |refine D6 (g7 _ _) (by simp only[SSA,RS,List.map_cons,List.map_nil]) fun v=> ?_
   |refine D6 (g8 _) (by simp only[SSA,RS,List.map_cons,List.map_nil]) fun v=> ?_
   |refine D6 (g8 _ _) (by simp only[SSA,RS,List.map_cons,List.map_nil]) fun v=> ?_
   |refine D6 (g9 _) (by simp only[SSA,RS,List.map_cons,List.map_nil]) fun v=> ?_
   |refine D6 (g9 _ _) (by simp only[SSA,RS,List.map_cons,List.map_nil]) fun v=> ?_
   |refine D6 (g10 _) (by simp only[SSA,RS,List.map_cons,List.map_nil]) fun v=> ?_
   |refine D6 (g10 _ _) (by simp only[SSA,RS,List.map_cons,List.map_nil]) fun v=> ?_)<;>simp only[SSA,RS,ES, *,reduceAdd,reduceSub,reduceMul,reduceLeDiff,reduceLT,reduceEqDiff,Nat.reduceBEq,↓reduceIte,reduceCtorEq])):p:=h
theorem mK : ∀ (a:GPred) (left:Int),Ok (ME a left) av (dn AI af [.agg ((GPred.row a).map .t), .t (.v (.int .i64 left))]):=by
 intro a left
 rw[A5 AI (fn:=Qr) rfl (xN rfl rfl _) (lB rfl)]
 have k0:= @Qr.eq_1;have f0:= @ME.eq_1
 exact gs
theorem Zh (a:List GPred):∀(left1:Int) (i:Int),Ok (Fa a left1 i) Tn (ev AI YC (.loop Lp) [.lv 0, .th Lq] (B8 (List.replicate 27 .dead) [(0, .t (.sl false (a.map GPred.row))),(1, .t (.v (.int .i64 left1))),(5, .t (.v (.int .i64 i)))]) (B9 (List.replicate 27 []) [])):=by
 unfold Ok
 refine Fa.partial_correctness a _ ?_
 intro F ih left1 i
 show Ok _ _ _
 have ih:∀(left1:Int) (i:Int),Ok (F left1 i) _ _:=ih
 rw[AV]
 have k0:= @Lp.eq_1;have k1:= @Lq.eq_1;have g0:=mK;have t0:=ih
 exact gs
theorem iv : ∀ (a:List GPred) (left:Int),Ok (FO a left) Tn (dn AI Xx [.t (.sl false (a.map GPred.row)), .t (.v (.int .i64 left))]):=by
 intro a left
 rw[A5 AI (fn:=ON) rfl (xN rfl rfl _) (lB rfl)]
 have k0:= @ON.eq_1;have f0:= @FO.eq_1;have t0:=Zh
 exact gs
theorem mL : ∀ (a:GStp) (left:Int),Ok (MF a left) aw (dn AI ah [.agg (((GStp.row false) a).map .t), .t (.v (.int .i64 left))]):=by
 intro a left
 rw[A5 AI (fn:=QW) rfl (xN rfl rfl _) (lB rfl)]
 have k0:= @QW.eq_1;have f0:= @MF.eq_1;have g0:=iv
 exact gs
theorem Zi (a:List GStp):∀(left1:Int) (i:Int),Ok (Fb a left1 i) To (ev AI YD (.loop Lf) [.lv 0, .th Lg] (B8 (List.replicate 27 .dead) [(0, .t (.sl false (a.map (GStp.row false)))),(1, .t (.v (.int .i64 left1))),(5, .t (.v (.int .i64 i)))]) (B9 (List.replicate 27 []) [])):=by
 unfold Ok
 refine Fb.partial_correctness a _ ?_
 intro F ih left1 i
 show Ok _ _ _
 have ih:∀(left1:Int) (i:Int),Ok (F left1 i) _ _:=ih
 rw[AV]
 have k0:= @Lf.eq_1;have k1:= @Lg.eq_1;have g0:=mL;have t0:=ih
 exact gs
theorem iw : ∀ (a:List GStp) (left:Int),Ok (Gd a left) To (dn AI Xy [.t (.sl false (a.map (GStp.row false))), .t (.v (.int .i64 left))]):=by
 intro a left
 rw[A5 AI (fn:=Nk) rfl (xN rfl rfl _) (lB rfl)]
 have k0:= @Nk.eq_1;have f0:= @Gd.eq_1;have t0:=Zi
 exact gs
theorem qB : ∀ (a:GSel) (left:Int),Ok (Ps a left) dk (dn AI dc [.agg (((GSel.row false) a).map .t), .t (.v (.int .i64 left))]):=by
 intro a left
 rw[A5 AI (fn:=Sh) rfl (xN rfl rfl _) (lB rfl)]
 have k0:= @Sh.eq_1;have f0:= @Ps.eq_1;have g0:=iw
 exact gs
theorem mM : ∀ (a:GDecl) (left:Int),Ok (MG a left) ax (dn AI ae [.agg ((GDecl.row a).map .t), .t (.v (.int .i64 left))]):=by
 intro a left
 rw[A5 AI (fn:=QI) rfl (xN rfl rfl _) (lB rfl)]
 have k0:= @QI.eq_1;have f0:= @MG.eq_1
 exact gs
theorem Zj (a:List GDecl):∀(left1:Int) (i:Int),Ok (Fc a left1 i) Tp (ev AI YE (.loop LN) [.lv 0, .th LO] (B8 (List.replicate 27 .dead) [(0, .t (.sl false (a.map GDecl.row))),(1, .t (.v (.int .i64 left1))),(5, .t (.v (.int .i64 i)))]) (B9 (List.replicate 27 []) [])):=by
 unfold Ok
 refine Fc.partial_correctness a _ ?_
 intro F ih left1 i
 show Ok _ _ _
 have ih:∀(left1:Int) (i:Int),Ok (F left1 i) _ _:=ih
 rw[AV]
 have k0:= @LN.eq_1;have k1:= @LO.eq_1;have g0:=mM;have t0:=ih
 exact gs
theorem X9 : ∀ (a:List GDecl) (left:Int),Ok (Bt a left) Tp (dn AI Tb [.t (.sl false (a.map GDecl.row)), .t (.v (.int .i64 left))]):=by
 intro a left
 rw[A5 AI (fn:=NE) rfl (xN rfl rfl _) (lB rfl)]
 have k0:= @NE.eq_1;have f0:= @Bt.eq_1;have t0:=Zj
 exact gs
theorem mN : ∀ (a:GAttr) (left:Int),Ok (MH a left) ay (dn AI ac [.agg ((GAttr.row a).map .t), .t (.v (.int .i64 left))]):=by
 intro a left
 rw[A5 AI (fn:=Qg) rfl (xN rfl rfl _) (lB rfl)]
 have k0:= @Qg.eq_1;have f0:= @MH.eq_1
 exact gs
theorem Zk (a:List GAttr):∀(left1:Int) (i:Int),Ok (Fd a left1 i) Tq (ev AI YF (.loop Ll) [.lv 0, .th Lm] (B8 (List.replicate 27 .dead) [(0, .t (.sl false (a.map GAttr.row))),(1, .t (.v (.int .i64 left1))),(5, .t (.v (.int .i64 i)))]) (B9 (List.replicate 27 []) [])):=by
 unfold Ok
 refine Fd.partial_correctness a _ ?_
 intro F ih left1 i
 show Ok _ _ _
 have ih:∀(left1:Int) (i:Int),Ok (F left1 i) _ _:=ih
 rw[AV]
 have k0:= @Ll.eq_1;have k1:= @Lm.eq_1;have g0:=mN;have t0:=ih
 exact gs
theorem iy : ∀ (a:List GAttr) (left:Int),Ok (Do a left) Tq (dn AI Xw [.t (.sl false (a.map GAttr.row)), .t (.v (.int .i64 left))]):=by
 intro a left
 rw[A5 AI (fn:=Nz) rfl (xN rfl rfl _) (lB rfl)]
 have k0:= @Nz.eq_1;have f0:= @Do.eq_1;have t0:=Zk
 exact gs
theorem bd : (∀ (a:GNode) (left:Int),Ok (Hi a left) Uz (dn AI Uq [.agg (((GNode.row false) a).map .t), .t (.v (.int .i64 left))]))∧
  (∀(a:List GNode) (left:Int),Ok (BG a left) Oj (dn AI N1 [.t (.sl false (a.map (GNode.row false))), .t (.v (.int .i64 left))]))∧
  (∀(a:List GNode) (left1:Int) (i:Int),Ok (EH a left1 i) Oj (ev AI YG (.loop LL) [.lv 0, .th LM] (B8 (List.replicate 27 .dead) [(0, .t (.sl false (a.map (GNode.row false)))),(1, .t (.v (.int .i64 left1))),(5, .t (.v (.int .i64 i)))]) (B9 (List.replicate 27 []) []))):=by
 unfold Ok
 refine Hi.mutual_partial_correctness _ _ _ ?_ ?_ ?_
 ·intro F1 ih1 a left
  show Ok _ _ _
  have ih1:∀(a:List GNode) (left:Int),Ok (F1 a left) _ _:=ih1
  rw[A5 AI (fn:=QH) rfl (xN rfl rfl _) (lB rfl)]
  have k0:= @QH.eq_1;have g0:=X9;have g1:=iy;have g2:=ih1
  exact gs
 ·intro F2 ih2 a left
  show Ok _ _ _
  have ih2:∀(a:List GNode) (left1:Int) (i:Int),Ok (F2 a left1 i) _ _:=ih2
  rw[A5 AI (fn:=ND) rfl (xN rfl rfl _) (lB rfl)]
  have k0:= @ND.eq_1;have t0:=ih2
  exact gs
 ·intro F0 F2 ih0 ih2 a left1 i
  show Ok _ _ _
  have ih0:∀(a:GNode) (left:Int),Ok (F0 a left) _ _:=ih0
  have ih2:∀(a:List GNode) (left1:Int) (i:Int),Ok (F2 a left1 i) _ _:=ih2
  rw[AV]
  have k0:= @LL.eq_1;have k1:= @LM.eq_1;have g0:=ih0;have t0:=ih2
  exact gs
theorem A5k (a:GNode) (left:Int):Ok (Hi a left) Uz (dn AI Uq [.agg (((GNode.row false) a).map .t), .t (.v (.int .i64 left))]):=bd.1 a left
theorem iz (a:List GNode) (left:Int):Ok (BG a left) Oj (dn AI N1 [.t (.sl false (a.map (GNode.row false))), .t (.v (.int .i64 left))]):=bd.2.1 a left
theorem ug : ∀ (a:GOp) (left:Int),Ok (TH a left) iM (dn AI iJ [.agg (((GOp.row false) a).map .t), .t (.v (.int .i64 left))]):=by
 intro a left
 rw[A5 AI (fn:=UO) rfl (xN rfl rfl _) (lB rfl)]
 have k0:= @UO.eq_1;have f0:= @TH.eq_1;have g0:=qB;have g1:=iz;have g2:=X9
 exact gs
theorem eL (a:List GOp):∀(left1:Int) (i:Int),Ok (HV a left1 i) WL (ev AI dl (.loop PW) [.lv 0, .th PX] (B8 (List.replicate 27 .dead) [(0, .t (.sl false (a.map (GOp.row false)))),(1, .t (.v (.int .i64 left1))),(5, .t (.v (.int .i64 i)))]) (B9 (List.replicate 27 []) [])):=by
 unfold Ok
 refine HV.partial_correctness a _ ?_
 intro F ih left1 i
 show Ok _ _ _
 have ih:∀(left1:Int) (i:Int),Ok (F left1 i) _ _:=ih
 rw[AV]
 have k0:= @PW.eq_1;have k1:= @PX.eq_1;have g0:=ug;have t0:=ih
 exact gs
theorem qC : ∀ (a:List GOp) (left:Int),Ok (Pt a left) WL (dn AI db [.t (.sl false (a.map (GOp.row false))), .t (.v (.int .i64 left))]):=by
 intro a left
 rw[A5 AI (fn:=Sd) rfl (xN rfl rfl _) (lB rfl)]
 have k0:= @Sd.eq_1;have f0:= @Pt.eq_1;have t0:=eL
 exact gs
theorem mO : ∀ (a:GPred),Ok (MI a) az (dn AI al [.agg ((GPred.row a).map .t)]):=by
 intro a
 rw[A5 AI (fn:=Qs) rfl (xN rfl rfl _) (lB rfl)]
 have k0:= @Qs.eq_1;have f0:= @MI.eq_1
 exact gs
theorem cK (a:List GPred):∀(out:List (GPred)) (i:Int),Ok (GI a out i) Tr (ev AI YH (.loop OO) [.lv 0, .th OP] (B8 (List.replicate 23 .dead) [(0, .t (.sl false (a.map GPred.row))),(3, .ref (7,0) out.length),(4, .t (.v (.int .i64 i)))]) (B9 (List.replicate 23 []) [(7,[.mem (out.map GPred.row) 0 false])])):=by
 unfold Ok
 refine GI.partial_correctness a _ ?_
 intro F ih out i
 show Ok _ _ _
 have ih:∀(out:List (GPred)) (i:Int),Ok (F out i) _ _:=ih
 rw[AV]
 have k0:= @OO.eq_1;have k1:= @OP.eq_1;have g0:=mO;have t0:=ih
 exact gs
theorem j5 : ∀ (a:List GPred),Ok (Jc a) Tr (dn AI Y0 [.t (.sl false (a.map GPred.row))]):=by
 intro a
 rw[A5 AI (fn:=OQ) rfl (xN rfl rfl _) (lB rfl)]
 have k0:= @OQ.eq_1;have f0:= @Jc.eq_1;have t0:=cK
 exact gs
theorem mP : ∀ (a:GStp),Ok (MJ a) b6 (dn AI am [.agg (((GStp.row false) a).map .t)]):=by
 intro a
 rw[A5 AI (fn:=QX) rfl (xN rfl rfl _) (lB rfl)]
 have k0:= @QX.eq_1;have f0:= @MJ.eq_1;have g0:=j5
 exact gs
theorem cL (a:List GStp):∀(out:List (GStp)) (i:Int),Ok (GJ a out i) Ts (ev AI YI (.loop Nl) [.lv 0, .th Nm] (B8 (List.replicate 23 .dead) [(0, .t (.sl false (a.map (GStp.row false)))),(3, .ref (7,0) out.length),(4, .t (.v (.int .i64 i)))]) (B9 (List.replicate 23 []) [(7,[.mem (out.map (GStp.row true)) 0 false])])):=by
 unfold Ok
 refine GJ.partial_correctness a _ ?_
 intro F ih out i
 show Ok _ _ _
 have ih:∀(out:List (GStp)) (i:Int),Ok (F out i) _ _:=ih
 rw[AV]
 have k0:= @Nl.eq_1;have k1:= @Nm.eq_1;have g0:=mP;have t0:=ih
 exact gs
theorem j6 : ∀ (a:List GStp),Ok (Jd a) Ts (dn AI Y1 [.t (.sl false (a.map (GStp.row false)))]):=by
 intro a
 rw[A5 AI (fn:=Nn) rfl (xN rfl rfl _) (lB rfl)]
 have k0:= @Nn.eq_1;have f0:= @Jd.eq_1;have t0:=cL
 exact gs
end TT
