import Derived.Test.YtpmnlfgdicmiiaaGreatDoorTKK
import Derived.Test.YtpmnlfgdicmiiaaGreatDoorTDefs
set_option maxHeartbeats 2000000
set_option linter.unusedVariables false
set_option linter.unusedSimpArgs false
set_option linter.defProp false
set_option maxRecDepth 100000
namespace TT
open Go
open Nat (reduceAdd reduceSub reduceMul reduceLeDiff reduceLT reduceEqDiff)
def dL (r:Bool):Ap:=⟨[.t (.v (.bool r))],[]⟩
def rY : Cx:=⟨1,[0],[.tmp 2]⟩
def TM (r:A5):Ap:=⟨[.box [.sl false (r.xb.map (rK .u8)), .v (.int .i64 r.xi), .v (.int .i64 r.xh)]],[]⟩
def YJ : Cx:=⟨1,[0],[.tmp 2]⟩
def WX (r:Int×A5):Ap:=⟨[.t (.v (.int .i64 r.1))],[some [[.sl false (r.2.xb.map (rK .u8)), .v (.int .i64 r.2.xi), .v (.int .i64 r.2.xh)]]]⟩
def gH : Cx:=⟨1,[1],[.tmp 2]⟩
def Ul (r:Int×A5):Ap:=⟨[.t (.v (.int .i64 r.1))],[some [[.sl false (r.2.xb.map (rK .u8)), .v (.int .i64 r.2.xi), .v (.int .i64 r.2.xh)]]]⟩
def dM : Cx:=⟨2,[1,0],[.tmp 4]⟩
def WY (r:Bool×A5):Ap:=⟨[.t (.v (.bool r.1))],[some [[.sl false (r.2.xb.map (rK .u8)), .v (.int .i64 r.2.xi), .v (.int .i64 r.2.xh)]]]⟩
def gI : Cx:=⟨2,[1,0],[.tmp 4]⟩
def YK (r:ByteArray×A5):Ap:=⟨[.t (.v (.string r.1))],[some [[.sl false (r.2.xb.map (rK .u8)), .v (.int .i64 r.2.xi), .v (.int .i64 r.2.xh)]]]⟩
def lk : Cx:=⟨2,[1,0],[.tmp 4]⟩
def YL (r:ByteArray×A5):Ap:=⟨[.t (.v (.string r.1))],[some [[.sl false (r.2.xb.map (rK .u8)), .v (.int .i64 r.2.xi), .v (.int .i64 r.2.xh)]]]⟩
def ll : Cx:=⟨1,[1],[.tmp 2]⟩
def WZ (r:A1×A5):Ap:=⟨[.agg [.v (.string r.1.Pre), .v (.string r.1.Uri)]],[some [[.sl false (r.2.xb.map (rK .u8)), .v (.int .i64 r.2.xi), .v (.int .i64 r.2.xh)]]]⟩
def gJ : Cx:=⟨1,[1],[.cell 2 2 true]⟩
def Rk (r:List A1×A5):Ap:=⟨[.t (.sl true (r.1.map A1.row))],[some [[.sl false (r.2.xb.map (rK .u8)), .v (.int .i64 r.2.xi), .v (.int .i64 r.2.xh)]]]⟩
def Wa : Cx:=⟨1,[1],[.tmp 2]⟩
def YM (r:List A1):Ap:=⟨[.t (.sl true (r.map A1.row))],[]⟩
def lm : Cx:=⟨2,[0,0],[.tmp 4]⟩
def Qm (r:ByteArray×Bool):Ap:=⟨[.t (.v (.string r.1)), .t (.v (.bool r.2))],[]⟩
def Um : Cx:=⟨2,[0,0],[.tmp 4, .tmp 5]⟩
def YN (r:ByteArray×A5):Ap:=⟨[.t (.v (.string r.1))],[some [[.sl false (r.2.xb.map (rK .u8)), .v (.int .i64 r.2.xi), .v (.int .i64 r.2.xh)]]]⟩
def lq : Cx:=⟨1,[1],[.tmp 2]⟩
def Wb (r:Bool):Ap:=⟨[.t (.v (.bool r))],[]⟩
def gL : Cx:=⟨2,[0,0],[.tmp 4]⟩
def QE (r:List A0):Ap:=⟨[.t (.sl true (r.map (A0.row true)))],[]⟩
def YO : Cx:=⟨1,[0],[.tmp 2]⟩
def Rl (r:A0):Ap:=⟨[.agg [.v (.int .i64 r.Kind), .v (.string r.Pre), .v (.string r.Local), .v (.string r.Uri), .sl true (r.Decls.map A1.row), .sl true (r.Attrs.map A3.row), .sl true (r.Kids.map (A0.row true)), .v (.string r.Text)]],[]⟩
def gM : Cx:=⟨1,[0],[.cell 2 8 true]⟩
def QF (r:List A0):Ap:=⟨[.t (.sl true (r.map (A0.row true)))],[]⟩
def TN : Cx:=⟨1,[0],[.tmp 2]⟩
def Ew (r:A0×A5×Int):Ap:=⟨[.agg [.v (.int .i64 r.1.Kind), .v (.string r.1.Pre), .v (.string r.1.Local), .v (.string r.1.Uri), .sl true (r.1.Decls.map A1.row), .sl true (r.1.Attrs.map A3.row), .sl true (r.1.Kids.map (A0.row true)), .v (.string r.1.Text)]],[some [[.sl false (r.2.1.xb.map (rK .u8)), .v (.int .i64 r.2.1.xi), .v (.int .i64 r.2.1.xh)]],some [[.v (.int .i64 r.2.2)]]]⟩
def HK : Cx:=⟨3,[1,0,1],[.cell 6 8 true]⟩
def Ma (r:Int):Ap:=⟨[.t (.v (.int .i64 r))],[]⟩
def Un : Cx:=⟨1,[0],[.tmp 2]⟩
def aS (r:Bool):Ap:=⟨[.t (.v (.bool r))],[]⟩
def oh : Cx:=⟨3,[0,0,0],[.tmp 6]⟩
def I1 (r:Int×Int×Bool):Ap:=⟨[.t (.v (.int .i64 r.1)), .t (.v (.int .i64 r.2.1)), .t (.v (.bool r.2.2))],[]⟩
def Jk : Cx:=⟨2,[0,0],[.tmp 4, .tmp 5, .tmp 6]⟩
def PM (r:Bool):Ap:=⟨[.t (.v (.bool r))],[]⟩
def To : Cx:=⟨2,[0,0],[.tmp 4]⟩
def Uo (r:Bool):Ap:=⟨[.t (.v (.bool r))],[]⟩
def dN : Cx:=⟨1,[0],[.tmp 2]⟩
def Wc (r:Bool):Ap:=⟨[.t (.v (.bool r))],[]⟩
def gN : Cx:=⟨1,[0],[.tmp 2]⟩
def Qn (r:Bool):Ap:=⟨[.t (.v (.bool r))],[]⟩
def Up : Cx:=⟨1,[0],[.tmp 2]⟩
def YP (r:Bool):Ap:=⟨[.t (.v (.bool r))],[]⟩
def lr : Cx:=⟨1,[0],[.tmp 2]⟩
def YQ (r:Bool):Ap:=⟨[.t (.v (.bool r))],[]⟩
def lu : Cx:=⟨1,[0],[.tmp 2]⟩
def Wd (r:Bool):Ap:=⟨[.t (.v (.bool r))],[]⟩
def gO : Cx:=⟨1,[0],[.tmp 2]⟩
def Qo (r:Bool):Ap:=⟨[.t (.v (.bool r))],[]⟩
def Uq : Cx:=⟨1,[0],[.tmp 2]⟩
def We (r:Bool):Ap:=⟨[.t (.v (.bool r))],[]⟩
def gP : Cx:=⟨1,[0],[.tmp 2]⟩
def Rm (r:Bool):Ap:=⟨[.t (.v (.bool r))],[]⟩
def Wf : Cx:=⟨1,[0],[.tmp 2]⟩
def Qp (r:Bool):Ap:=⟨[.t (.v (.bool r))],[]⟩
def Ur : Cx:=⟨1,[0],[.tmp 2]⟩
def Wg (r:Bool):Ap:=⟨[.t (.v (.bool r))],[]⟩
def gQ : Cx:=⟨1,[0],[.tmp 2]⟩
def TO (r:Bool):Ap:=⟨[.t (.v (.bool r))],[]⟩
def YR : Cx:=⟨2,[0,0],[.tmp 4]⟩
def YS (r:Bool):Ap:=⟨[.t (.v (.bool r))],[]⟩
def lw : Cx:=⟨1,[0],[.tmp 2]⟩
def Us (r:Bool):Ap:=⟨[.t (.v (.bool r))],[]⟩
def dO : Cx:=⟨1,[0],[.tmp 2]⟩
def PN (r:Bool):Ap:=⟨[.t (.v (.bool r))],[]⟩
def Tp : Cx:=⟨1,[0],[.tmp 2]⟩
def QG (r:Bool):Ap:=⟨[.t (.v (.bool r))],[]⟩
def TP : Cx:=⟨1,[0],[.tmp 2]⟩
def Jl (r:Bool):Ap:=⟨[.t (.v (.bool r))],[]⟩
def Rn : Cx:=⟨2,[0,0],[.tmp 4]⟩
def OB (r:Bool):Ap:=⟨[.t (.v (.bool r))],[]⟩
def Ro : Cx:=⟨1,[0],[.tmp 2]⟩
def I2 (r:Bool):Ap:=⟨[.t (.v (.bool r))],[]⟩
def OC : Cx:=⟨2,[0,0],[.tmp 4]⟩
def Wh (r:Bool):Ap:=⟨[.t (.v (.bool r))],[]⟩
def gR : Cx:=⟨1,[0],[.tmp 2]⟩
def OD (r:A0×A5):Ap:=⟨[.agg [.v (.int .i64 r.1.Kind), .v (.string r.1.Pre), .v (.string r.1.Local), .v (.string r.1.Uri), .sl true (r.1.Decls.map A1.row), .sl true (r.1.Attrs.map A3.row), .sl true (r.1.Kids.map (A0.row true)), .v (.string r.1.Text)]],[some [[.sl false (r.2.xb.map (rK .u8)), .v (.int .i64 r.2.xi), .v (.int .i64 r.2.xh)]]]⟩
def Rp : Cx:=⟨1,[1],[.cell 2 8 true]⟩
def Tq (r:A0):Ap:=⟨[.agg [.v (.int .i64 r.Kind), .v (.string r.Pre), .v (.string r.Local), .v (.string r.Uri), .sl true (r.Decls.map A1.row), .sl true (r.Attrs.map A3.row), .sl true (r.Kids.map (A0.row true)), .v (.string r.Text)]],[]⟩
def aw : Cx:=⟨1,[0],[.cell 2 8 true]⟩
def Mb (r:Int):Ap:=⟨[.t (.v (.int .i64 r))],[]⟩
def Ut : Cx:=⟨1,[0],[.tmp 2]⟩
def jT (r:Bool):Ap:=⟨[.t (.v (.bool r))],[]⟩
def ut : Cx:=⟨3,[0,0,0],[.tmp 6]⟩
def DF (r:Int×Int):Ap:=⟨[.t (.v (.int .i32 r.1)), .t (.v (.int .i64 r.2))],[]⟩
def L6 : Cx:=⟨1,[0],[.tmp 2, .tmp 3]⟩
def Wi (r:Int×Int×Bool):Ap:=⟨[.t (.v (.int .i64 r.1)), .t (.v (.int .i64 r.2.1)), .t (.v (.bool r.2.2))],[]⟩
def gS : Cx:=⟨2,[0,0],[.tmp 4, .tmp 5, .tmp 6]⟩
def Uu (r:Bool×Int):Ap:=⟨[.t (.v (.bool r.1))],[some [[.v (.int .i64 r.2)]]]⟩
def dP : Cx:=⟨2,[0,1],[.tmp 3]⟩
def DX (r:Int×Int):Ap:=⟨[.t (.v (.int .i64 r.1))],[some [[.v (.int .i64 r.2)]]]⟩
def G7 : Cx:=⟨2,[0,1],[.tmp 4]⟩
def Ey (r:Bool×Int):Ap:=⟨[.t (.v (.bool r.1))],[some [[.v (.int .i64 r.2)]]]⟩
def Jm : Cx:=⟨2,[0,1],[.tmp 4]⟩
def YT (r:Bool):Ap:=⟨[.t (.v (.bool r))],[]⟩
def ly : Cx:=⟨2,[0,0],[.tmp 4]⟩
def Wj (r:Bool):Ap:=⟨[.t (.v (.bool r))],[]⟩
def gT : Cx:=⟨1,[0],[.tmp 2]⟩
def Qq (r:Bool):Ap:=⟨[.t (.v (.bool r))],[]⟩
def Uv : Cx:=⟨1,[0],[.tmp 2]⟩
def Wk (r:Bool):Ap:=⟨[.t (.v (.bool r))],[]⟩
def gU : Cx:=⟨1,[0],[.tmp 2]⟩
def Kf (r:Bool):Ap:=⟨[.t (.v (.bool r))],[]⟩
def XF : Cx:=⟨2,[0,0],[.tmp 4]⟩
def G8 (r:Bool):Ap:=⟨[.t (.v (.bool r))],[]⟩
def Mc : Cx:=⟨2,[0,0],[.tmp 4]⟩
def PX (r:Bool):Ap:=⟨[.t (.v (.bool r))],[]⟩
def Vo : Cx:=⟨2,[0,0],[.tmp 4]⟩
def Wl (r:Bool):Ap:=⟨[.t (.v (.bool r))],[]⟩
def gV : Cx:=⟨1,[0],[.tmp 2]⟩
def Uw (r:Bool):Ap:=⟨[.t (.v (.bool r))],[]⟩
def dQ : Cx:=⟨1,[0],[.tmp 2]⟩
def Wm (r:Bool):Ap:=⟨[.t (.v (.bool r))],[]⟩
def gW : Cx:=⟨1,[0],[.tmp 2]⟩
def Qr (r:Bool):Ap:=⟨[.t (.v (.bool r))],[]⟩
def Ux : Cx:=⟨1,[0],[.tmp 2]⟩
def JN (r:Bool):Ap:=⟨[.t (.v (.bool r))],[]⟩
def Vp : Cx:=⟨2,[0,0],[.tmp 4]⟩
def Uy (r:Bool):Ap:=⟨[.t (.v (.bool r))],[]⟩
def dR : Cx:=⟨1,[0],[.tmp 2]⟩
def Wn (r:Bool):Ap:=⟨[.t (.v (.bool r))],[]⟩
def gX : Cx:=⟨2,[0,0],[.tmp 4]⟩
def Rq (r:Bool):Ap:=⟨[.t (.v (.bool r))],[]⟩
def Wo : Cx:=⟨1,[0],[.tmp 2]⟩
def G9 (r:Bool):Ap:=⟨[.t (.v (.bool r))],[]⟩
def Me : Cx:=⟨2,[0,0],[.tmp 4]⟩
def PY (r:Bool):Ap:=⟨[.t (.v (.bool r))],[]⟩
def Vq : Cx:=⟨2,[0,0],[.tmp 4]⟩
def YU (r:Bool):Ap:=⟨[.t (.v (.bool r))],[]⟩
def lz : Cx:=⟨1,[0],[.tmp 2]⟩
def YV (r:Bool):Ap:=⟨[.t (.v (.bool r))],[]⟩
def m9 : Cx:=⟨2,[0,0],[.tmp 4]⟩
def Wp (r:Bool):Ap:=⟨[.t (.v (.bool r))],[]⟩
def gY : Cx:=⟨1,[0],[.tmp 2]⟩
def Qs (r:Bool):Ap:=⟨[.t (.v (.bool r))],[]⟩
def Uz : Cx:=⟨1,[0],[.tmp 2]⟩
def Wq (r:Bool):Ap:=⟨[.t (.v (.bool r))],[]⟩
def gZ : Cx:=⟨1,[0],[.tmp 2]⟩
def Mf (r:Int):Ap:=⟨[.t (.v (.int .i64 r))],[]⟩
def YW : Cx:=⟨2,[0,0],[.tmp 4]⟩
def PZ (r:Int):Ap:=⟨[.t (.v (.int .i64 r))],[]⟩
def Vr : Cx:=⟨2,[0,0],[.tmp 4]⟩
def Qt (r:Bool):Ap:=⟨[.t (.v (.bool r))],[]⟩
def V0 : Cx:=⟨1,[0],[.tmp 2]⟩
def Mg (r:Bool):Ap:=⟨[.t (.v (.bool r))],[]⟩
def RQ : Cx:=⟨1,[0],[.tmp 2]⟩
def Rr (r:Bool):Ap:=⟨[.t (.v (.bool r))],[]⟩
def ga : Cx:=⟨2,[0,0],[.tmp 4]⟩
def Ct (r:Bool×Int):Ap:=⟨[.t (.v (.bool r.1))],[some [[.v (.int .i64 r.2)]]]⟩
def Jn : Cx:=⟨2,[0,1],[.tmp 4]⟩
def C8 (r:Int×Int):Ap:=⟨[.t (.v (.int .i64 r.1))],[some [[.v (.int .i64 r.2)]]]⟩
def GA : Cx:=⟨2,[0,1],[.tmp 4]⟩
def PO (r:Bool×Int):Ap:=⟨[.t (.v (.bool r.1))],[some [[.v (.int .i64 r.2)]]]⟩
def ax : Cx:=⟨2,[0,1],[.tmp 3]⟩
def Rs (r:Bool):Ap:=⟨[.t (.v (.bool r))],[]⟩
def gb : Cx:=⟨2,[0,0],[.tmp 4]⟩
def Rt (r:Int):Ap:=⟨[.t (.v (.int .i64 r))],[]⟩
def Ws : Cx:=⟨2,[0,0],[.tmp 4]⟩
def Ru (r:Bool):Ap:=⟨[.t (.v (.bool r))],[]⟩
def Wt : Cx:=⟨1,[0],[.tmp 2]⟩
def Wu (r:Bool):Ap:=⟨[.t (.v (.bool r))],[]⟩
def gc : Cx:=⟨2,[0,0],[.tmp 4]⟩
def Wv (r:Bool):Ap:=⟨[.t (.v (.bool r))],[]⟩
def gh : Cx:=⟨1,[0],[.tmp 2]⟩
def Ww (r:Bool):Ap:=⟨[.t (.v (.bool r))],[]⟩
def gi : Cx:=⟨2,[0,0],[.tmp 4]⟩
def YX (r:Bool):Ap:=⟨[.t (.v (.bool r))],[]⟩
def mA : Cx:=⟨1,[0],[.tmp 2]⟩
def Jo (r:Bool):Ap:=⟨[.t (.v (.bool r))],[]⟩
def OE : Cx:=⟨2,[0,0],[.tmp 4]⟩
def Tr (r:Bool×AJ):Ap:=⟨[.t (.v (.bool r.1))],[some [[.v (.bool r.2.Deep), .v (.int .i64 r.2.Kind), .v (.string r.2.Pre), .v (.string r.2.Local), .sl false (r.2.Preds.map AH.row)]]]⟩
def ay : Cx:=⟨2,[0,1],[.tmp 3]⟩
def DY (r:Int×AJ):Ap:=⟨[.t (.v (.int .i64 r.1))],[some [[.v (.bool r.2.Deep), .v (.int .i64 r.2.Kind), .v (.string r.2.Pre), .v (.string r.2.Local), .sl false (r.2.Preds.map AH.row)]]]⟩
def GB : Cx:=⟨2,[0,1],[.tmp 4]⟩
def Ez (r:Bool×AJ):Ap:=⟨[.t (.v (.bool r.1))],[some [[.v (.bool r.2.Deep), .v (.int .i64 r.2.Kind), .v (.string r.2.Pre), .v (.string r.2.Local), .sl false (r.2.Preds.map AH.row)]]]⟩
def Jp : Cx:=⟨2,[0,1],[.tmp 4]⟩
def OF (r:Bool):Ap:=⟨[.t (.v (.bool r))],[]⟩
def Rv : Cx:=⟨2,[0,0],[.tmp 4]⟩
def TQ (r:Bool):Ap:=⟨[.t (.v (.bool r))],[]⟩
def YY : Cx:=⟨1,[0],[.tmp 2]⟩
def V1 (r:ByteArray×Bool):Ap:=⟨[.t (.v (.string r.1)), .t (.v (.bool r.2))],[]⟩
def dS : Cx:=⟨2,[0,0],[.cell 4 1 false, .cell 5 1 false]⟩
def Sg (r:Bool):Ap:=⟨[.t (.v (.bool r))],[]⟩
def ZJ : Cx:=⟨2,[0,0],[.tmp 3]⟩
def Qu (r:Bool):Ap:=⟨[.t (.v (.bool r))],[]⟩
def XG : Cx:=⟨2,[0,0],[.tmp 3]⟩
def DG (r:Int):Ap:=⟨[.t (.v (.int .i64 r))],[]⟩
def Fc : Cx:=⟨2,[0,0],[.tmp 4]⟩
def Ee (r:Bool):Ap:=⟨[.t (.v (.bool r))],[]⟩
def JO : Cx:=⟨2,[0,0],[.tmp 4]⟩
def Sh (r:Bool):Ap:=⟨[.t (.v (.bool r))],[]⟩
def ZK : Cx:=⟨2,[0,0],[.tmp 3]⟩
def Dn (r:Int):Ap:=⟨[.t (.v (.int .i64 r))],[]⟩
def GW : Cx:=⟨2,[0,0],[.tmp 4]⟩
def FU (r:Bool):Ap:=⟨[.t (.v (.bool r))],[]⟩
def Kg : Cx:=⟨2,[0,0],[.tmp 4]⟩
def YZ (r:Bool):Ap:=⟨[.t (.v (.bool r))],[]⟩
def mB : Cx:=⟨2,[0,0],[.tmp 4]⟩
def Qv (r:List Int):Ap:=⟨[.t (.sl true (r.map rI))],[]⟩
def Qw : Cx:=⟨1,[0],[.tmp 2]⟩
def Pa (r:List Int):Ap:=⟨[.t (.sl true (r.map rI))],[]⟩
def Vs : Cx:=⟨1,[0],[.tmp 2]⟩
def KK (r:List (List Int)):Ap:=⟨[.t (.sl true (r.map (rL true rI)))],[none]⟩
def Ts : Cx:=⟨3,[0,0,1],[.tmp 6]⟩
def Wx (r:List (List Int)):Ap:=⟨[.t (.sl true (r.map (rL true rI)))],[]⟩
def gj : Cx:=⟨1,[0],[.tmp 2]⟩
def Pb (r:List A1):Ap:=⟨[.t (.sl true (r.map A1.row))],[]⟩
def Pc : Cx:=⟨1,[0],[.tmp 2]⟩
def Pe (r:List A3):Ap:=⟨[.t (.sl true (r.map A3.row))],[]⟩
def Pf : Cx:=⟨1,[0],[.tmp 2]⟩
def NK (r:A0):Ap:=⟨[.agg [.v (.int .i64 r.Kind), .v (.string r.Pre), .v (.string r.Local), .v (.string r.Uri), .sl true (r.Decls.map A1.row), .sl true (r.Attrs.map A3.row), .sl true (r.Kids.map (A0.row true)), .v (.string r.Text)]],[]⟩
def ZL : Cx:=⟨1,[0],[.cell 2 8 true]⟩
def IN (r:List A0):Ap:=⟨[.t (.sl true (r.map (A0.row true)))],[]⟩
def RR : Cx:=⟨1,[0],[.tmp 2]⟩
def Rw (r:A0×Bool):Ap:=⟨[.agg [.v (.int .i64 r.1.Kind), .v (.string r.1.Pre), .v (.string r.1.Local), .v (.string r.1.Uri), .sl true (r.1.Decls.map A1.row), .sl true (r.1.Attrs.map A3.row), .sl true (r.1.Kids.map (A0.row true)), .v (.string r.1.Text)], .t (.v (.bool r.2))],[]⟩
def Wy : Cx:=⟨2,[0,0],[.cell 4 8 true, .tmp 5]⟩
def Rx (r:ByteArray×ByteArray×Bool):Ap:=⟨[.t (.v (.string r.1)), .t (.v (.string r.2.1)), .t (.v (.bool r.2.2))],[]⟩
def gl : Cx:=⟨2,[0,0],[.tmp 4, .tmp 5, .tmp 6]⟩
def Si (r:ByteArray×ByteArray×Bool):Ap:=⟨[.t (.v (.string r.1)), .t (.v (.string r.2.1)), .t (.v (.bool r.2.2))],[]⟩
def ZM : Cx:=⟨1,[0],[.tmp 2, .tmp 3, .tmp 4]⟩
def PP (r:ByteArray):Ap:=⟨[.t (.v (.string r))],[]⟩
def Tt : Cx:=⟨2,[0,0],[.tmp 4]⟩
def V2 (r:Bool×ByteArray×ByteArray):Ap:=⟨[.t (.v (.bool r.1))],[some [[.v (.string r.2.1)]],some [[.v (.string r.2.2)]]]⟩
def dT : Cx:=⟨3,[0,1,1],[.tmp 4]⟩
def E1 (r:Int×ByteArray×ByteArray):Ap:=⟨[.t (.v (.int .i64 r.1))],[some [[.v (.string r.2.1)]],some [[.v (.string r.2.2)]]]⟩
def H6 : Cx:=⟨2,[0,2],[.tmp 4]⟩
def Ya (r:Bh×Bool):Ap:=⟨[.agg [.v (.string r.1.El), .v (.string r.1.At), .v (.bool r.1.Id), .v (.bool r.1.Has), .v (.string r.1.Val)], .t (.v (.bool r.2))],[]⟩
def mC : Cx:=⟨3,[0,0,0],[.cell 6 5 true, .tmp 7]⟩
def TR (r:List A3):Ap:=⟨[.t (.sl true (r.map A3.row))],[]⟩
def Yb : Cx:=⟨2,[0,0],[.tmp 4]⟩
def Kz (r:Bool):Ap:=⟨[.t (.v (.bool r))],[]⟩
def Sj : Cx:=⟨2,[0,0],[.tmp 3]⟩
def CP (r:Int):Ap:=⟨[.t (.v (.int .i64 r))],[]⟩
def EM : Cx:=⟨2,[0,0],[.tmp 4]⟩
def Dj (r:Bool):Ap:=⟨[.t (.v (.bool r))],[]⟩
def Hu : Cx:=⟨2,[0,0],[.tmp 4]⟩
def I9 (r:List (List Int)):Ap:=⟨[.t (.sl false (r.map (rL false rI)))],[]⟩
def Mp : Cx:=⟨2,[0,0],[.tmp 4]⟩
def IP (r:Int):Ap:=⟨[.t (.v (.int .i64 r))],[]⟩
def Mh : Cx:=⟨1,[0],[.tmp 2]⟩
def Tu (r:Int):Ap:=⟨[.t (.v (.int .i64 r))],[]⟩
def az : Cx:=⟨1,[0],[.tmp 2]⟩
def Tv (r:Bool):Ap:=⟨[.t (.v (.bool r))],[]⟩
def b6 : Cx:=⟨1,[0],[.tmp 2]⟩
def RT (r:Int):Ap:=⟨[.t (.v (.int .i64 r))],[]⟩
def Yc : Cx:=⟨2,[0,0],[.tmp 4]⟩
def Ir (r:Int):Ap:=⟨[.t (.v (.int .i64 r))],[]⟩
def Oa : Cx:=⟨2,[0,0],[.tmp 4]⟩
def Ob (r:Int):Ap:=⟨[.t (.v (.int .i64 r))],[]⟩
def V3 : Cx:=⟨2,[0,0],[.tmp 4]⟩
def Ah (r:List (List Int)):Ap:=⟨[],[some (r.map (rL false rI))]⟩
def BD : Cx:=⟨4,[1,0,0,0],[]⟩
def Bt (r:List (List Int)):Ap:=⟨[],[some (r.map (rL false rI))]⟩
def DZ : Cx:=⟨5,[1,0,0,0,0],[]⟩
def Ef (r:List (List Int)):Ap:=⟨[],[some (r.map (rL false rI))]⟩
def JP : Cx:=⟨2,[1,0],[]⟩
def Kh (r:Bool):Ap:=⟨[.t (.v (.bool r))],[]⟩
def Qx : Cx:=⟨2,[0,0],[.tmp 4]⟩
def Tw (r:Bool):Ap:=⟨[.t (.v (.bool r))],[]⟩
def b7 : Cx:=⟨2,[0,0],[.tmp 4]⟩
def D6 (r:List (List Int)):Ap:=⟨[.t (.sl true (r.map (rL false rI)))],[none]⟩
def FV : Cx:=⟨2,[1,0],[.tmp 4]⟩
def Oc (r:Bool):Ap:=⟨[.t (.v (.bool r))],[]⟩
def V4 : Cx:=⟨4,[0,0,0,0],[.tmp 8]⟩
def Od (r:Bool):Ap:=⟨[.t (.v (.bool r))],[]⟩
def V5 : Cx:=⟨3,[0,0,0],[.tmp 6]⟩
def GC (r:List Int):Ap:=⟨[.t (.sl false (r.map rI))],[]⟩
def Is : Cx:=⟨3,[0,0,0],[.tmp 6]⟩
def D9 (r:List (List Int)):Ap:=⟨[.t (.sl false (r.map (rL false rI)))],[]⟩
def EN : Cx:=⟨3,[0,0,0],[.tmp 6]⟩
def Hi (r:Bool):Ap:=⟨[.t (.v (.bool r))],[]⟩
def Mi : Cx:=⟨4,[0,0,0,0],[.tmp 8]⟩
def GD (r:List AS):Ap:=⟨[.t (.sl true (r.map (AS.row false)))],[]⟩
def It : Cx:=⟨3,[0,0,0],[.tmp 6]⟩
def L4 (r:List AS×Bool):Ap:=⟨[.t (.sl true (r.1.map (AS.row false))), .t (.v (.bool r.2))],[]⟩
def Oe : Cx:=⟨4,[0,0,0,0],[.tmp 8, .tmp 9]⟩
def TS (r:Bool):Ap:=⟨[.t (.v (.bool r))],[]⟩
def Yd : Cx:=⟨1,[0],[.tmp 2]⟩
theorem lT {α:Type} (l:List α):((AD l).toNat<l.length+1)=True:=by simp[AD]
def ES := And.intro @lT<|And.intro (@dL.eq_1)<|And.intro (@rY.eq_1)<|And.intro (@TM.eq_1)<|And.intro (@YJ.eq_1)<|And.intro (@WX.eq_1)<|And.intro (@gH.eq_1)<|And.intro (@Ul.eq_1)<|And.intro (@dM.eq_1)<|And.intro (@WY.eq_1)<|And.intro (@gI.eq_1)<|And.intro (@YK.eq_1)<|And.intro (@lk.eq_1)<|And.intro (@YL.eq_1)<|And.intro (@ll.eq_1)<|And.intro (@WZ.eq_1)<|And.intro (@gJ.eq_1)<|And.intro (@Rk.eq_1)<|And.intro (@Wa.eq_1)<|And.intro (@YM.eq_1)<|And.intro (@lm.eq_1)<|And.intro (@Qm.eq_1)<|And.intro (@Um.eq_1)<|And.intro (@YN.eq_1)<|And.intro (@lq.eq_1)<|And.intro (@Wb.eq_1)<|And.intro (@gL.eq_1)<|And.intro (@QE.eq_1)<|And.intro (@YO.eq_1)<|And.intro (@Rl.eq_1)<|And.intro (@gM.eq_1)<|And.intro (@QF.eq_1)<|And.intro (@TN.eq_1)<|And.intro (@Ew.eq_1)<|And.intro (@HK.eq_1)<|And.intro (@Ma.eq_1)<|And.intro (@Un.eq_1)<|And.intro (@aS.eq_1)<|And.intro (@oh.eq_1)<|And.intro (@I1.eq_1)<|And.intro (@Jk.eq_1)<|And.intro (@PM.eq_1)<|And.intro (@To.eq_1)<|And.intro (@Uo.eq_1)<|And.intro (@dN.eq_1)<|And.intro (@Wc.eq_1)<|And.intro (@gN.eq_1)<|And.intro (@Qn.eq_1)<|And.intro (@Up.eq_1)<|And.intro (@YP.eq_1)<|And.intro (@lr.eq_1)<|And.intro (@YQ.eq_1)<|And.intro (@lu.eq_1)<|And.intro (@Wd.eq_1)<|And.intro (@gO.eq_1)<|And.intro (@Qo.eq_1)<|And.intro (@Uq.eq_1)<|And.intro (@We.eq_1)<|And.intro (@gP.eq_1)<|And.intro (@Rm.eq_1)<|And.intro (@Wf.eq_1)<|And.intro (@Qp.eq_1)<|And.intro (@Ur.eq_1)<|And.intro (@Wg.eq_1)<|And.intro (@gQ.eq_1)<|And.intro (@TO.eq_1)<|And.intro (@YR.eq_1)<|And.intro (@YS.eq_1)<|And.intro (@lw.eq_1)<|And.intro (@Us.eq_1)<|And.intro (@dO.eq_1)<|And.intro (@PN.eq_1)<|And.intro (@Tp.eq_1)<|And.intro (@QG.eq_1)<|And.intro (@TP.eq_1)<|And.intro (@Jl.eq_1)<|And.intro (@Rn.eq_1)<|And.intro (@OB.eq_1)<|And.intro (@Ro.eq_1)<|And.intro (@I2.eq_1)<|And.intro (@OC.eq_1)<|And.intro (@Wh.eq_1)<|And.intro (@gR.eq_1)<|And.intro (@OD.eq_1)<|And.intro (@Rp.eq_1)<|And.intro (@Tq.eq_1)<|And.intro (@aw.eq_1)<|And.intro (@Mb.eq_1)<|And.intro (@Ut.eq_1)<|And.intro (@jT.eq_1)<|And.intro (@ut.eq_1)<|And.intro (@DF.eq_1)<|And.intro (@L6.eq_1)<|And.intro (@Wi.eq_1)<|And.intro (@gS.eq_1)<|And.intro (@Uu.eq_1)<|And.intro (@dP.eq_1)<|And.intro (@DX.eq_1)<|And.intro (@G7.eq_1)<|And.intro (@Ey.eq_1)<|And.intro (@Jm.eq_1)<|And.intro (@YT.eq_1)<|And.intro (@ly.eq_1)<|And.intro (@Wj.eq_1)<|And.intro (@gT.eq_1)<|And.intro (@Qq.eq_1)<|And.intro (@Uv.eq_1)<|And.intro (@Wk.eq_1)<|And.intro (@gU.eq_1)<|And.intro (@Kf.eq_1)<|And.intro (@XF.eq_1)<|And.intro (@G8.eq_1)<|And.intro (@Mc.eq_1)<|And.intro (@PX.eq_1)<|And.intro (@Vo.eq_1)<|And.intro (@Wl.eq_1)<|And.intro (@gV.eq_1)<|And.intro (@Uw.eq_1)<|And.intro (@dQ.eq_1)<|And.intro (@Wm.eq_1)<|And.intro (@gW.eq_1)<|And.intro (@Qr.eq_1)<|And.intro (@Ux.eq_1)<|And.intro (@JN.eq_1)<|And.intro (@Vp.eq_1)<|And.intro (@Uy.eq_1)<|And.intro (@dR.eq_1)<|And.intro (@Wn.eq_1)<|And.intro (@gX.eq_1)<|And.intro (@Rq.eq_1)<|And.intro (@Wo.eq_1)<|And.intro (@G9.eq_1)<|And.intro (@Me.eq_1)<|And.intro (@PY.eq_1)<|And.intro (@Vq.eq_1)<|And.intro (@YU.eq_1)<|And.intro (@lz.eq_1)<|And.intro (@YV.eq_1)<|And.intro (@m9.eq_1)<|And.intro (@Wp.eq_1)<|And.intro (@gY.eq_1)<|And.intro (@Qs.eq_1)<|And.intro (@Uz.eq_1)<|And.intro (@Wq.eq_1)<|And.intro (@gZ.eq_1)<|And.intro (@Mf.eq_1)<|And.intro (@YW.eq_1)<|And.intro (@PZ.eq_1)<|And.intro (@Vr.eq_1)<|And.intro (@Qt.eq_1)<|And.intro (@V0.eq_1)<|And.intro (@Mg.eq_1)<|And.intro (@RQ.eq_1)<|And.intro (@Rr.eq_1)<|And.intro (@ga.eq_1)<|And.intro (@Ct.eq_1)<|And.intro (@Jn.eq_1)<|And.intro (@C8.eq_1)<|And.intro (@GA.eq_1)<|And.intro (@PO.eq_1)<|And.intro (@ax.eq_1)<|And.intro (@Rs.eq_1)<|And.intro (@gb.eq_1)<|And.intro (@Rt.eq_1)<|And.intro (@Ws.eq_1)<|And.intro (@Ru.eq_1)<|And.intro (@Wt.eq_1)<|And.intro (@Wu.eq_1)<|And.intro (@gc.eq_1)<|And.intro (@Wv.eq_1)<|And.intro (@gh.eq_1)<|And.intro (@Ww.eq_1)<|And.intro (@gi.eq_1)<|And.intro (@YX.eq_1)<|And.intro (@mA.eq_1)<|And.intro (@Jo.eq_1)<|And.intro (@OE.eq_1)<|And.intro (@Tr.eq_1)<|And.intro (@ay.eq_1)<|And.intro (@DY.eq_1)<|And.intro (@GB.eq_1)<|And.intro (@Ez.eq_1)<|And.intro (@Jp.eq_1)<|And.intro (@OF.eq_1)<|And.intro (@Rv.eq_1)<|And.intro (@TQ.eq_1)<|And.intro (@YY.eq_1)<|And.intro (@V1.eq_1)<|And.intro (@dS.eq_1)<|And.intro (@Sg.eq_1)<|And.intro (@ZJ.eq_1)<|And.intro (@Qu.eq_1)<|And.intro (@XG.eq_1)<|And.intro (@DG.eq_1)<|And.intro (@Fc.eq_1)<|And.intro (@Ee.eq_1)<|And.intro (@JO.eq_1)<|And.intro (@Sh.eq_1)<|And.intro (@ZK.eq_1)<|And.intro (@Dn.eq_1)<|And.intro (@GW.eq_1)<|And.intro (@FU.eq_1)<|And.intro (@Kg.eq_1)<|And.intro (@YZ.eq_1)<|And.intro (@mB.eq_1)<|And.intro (@Qv.eq_1)<|And.intro (@Qw.eq_1)<|And.intro (@Pa.eq_1)<|And.intro (@Vs.eq_1)<|And.intro (@KK.eq_1)<|And.intro (@Ts.eq_1)<|And.intro (@Wx.eq_1)<|And.intro (@gj.eq_1)<|And.intro (@Pb.eq_1)<|And.intro (@Pc.eq_1)<|And.intro (@Pe.eq_1)<|And.intro (@Pf.eq_1)<|And.intro (@NK.eq_1)<|And.intro (@ZL.eq_1)<|And.intro (@IN.eq_1)<|And.intro (@RR.eq_1)<|And.intro (@Rw.eq_1)<|And.intro (@Wy.eq_1)<|And.intro (@Rx.eq_1)<|And.intro (@gl.eq_1)<|And.intro (@Si.eq_1)<|And.intro (@ZM.eq_1)<|And.intro (@PP.eq_1)<|And.intro (@Tt.eq_1)<|And.intro (@V2.eq_1)<|And.intro (@dT.eq_1)<|And.intro (@E1.eq_1)<|And.intro (@H6.eq_1)<|And.intro (@Ya.eq_1)<|And.intro (@mC.eq_1)<|And.intro (@TR.eq_1)<|And.intro (@Yb.eq_1)<|And.intro (@Kz.eq_1)<|And.intro (@Sj.eq_1)<|And.intro (@CP.eq_1)<|And.intro (@EM.eq_1)<|And.intro (@Dj.eq_1)<|And.intro (@Hu.eq_1)<|And.intro (@I9.eq_1)<|And.intro (@Mp.eq_1)<|And.intro (@IP.eq_1)<|And.intro (@Mh.eq_1)<|And.intro (@Tu.eq_1)<|And.intro (@az.eq_1)<|And.intro (@Tv.eq_1)<|And.intro (@b6.eq_1)<|And.intro (@RT.eq_1)<|And.intro (@Yc.eq_1)<|And.intro (@Ir.eq_1)<|And.intro (@Oa.eq_1)<|And.intro (@Ob.eq_1)<|And.intro (@V3.eq_1)<|And.intro (@Ah.eq_1)<|And.intro (@BD.eq_1)<|And.intro (@Bt.eq_1)<|And.intro (@DZ.eq_1)<|And.intro (@Ef.eq_1)<|And.intro (@JP.eq_1)<|And.intro (@Kh.eq_1)<|And.intro (@Qx.eq_1)<|And.intro (@Tw.eq_1)<|And.intro (@b7.eq_1)<|And.intro (@D6.eq_1)<|And.intro (@FV.eq_1)<|And.intro (@Oc.eq_1)<|And.intro (@V4.eq_1)<|And.intro (@Od.eq_1)<|And.intro (@V5.eq_1)<|And.intro (@GC.eq_1)<|And.intro (@Is.eq_1)<|And.intro (@D9.eq_1)<|And.intro (@EN.eq_1)<|And.intro (@Hi.eq_1)<|And.intro (@Mi.eq_1)<|And.intro (@GD.eq_1)<|And.intro (@It.eq_1)<|And.intro (@L4.eq_1)<|And.intro (@Oe.eq_1)<|And.intro (@TS.eq_1)<| @Yd.eq_1
theorem xN {f:FuncId} (h:AF.cl.contains f=false) (h2:(AF.lb.all fun p=>p.1 != f)=true) (args:List Km):xOf AF f args=none:=wW h h2 args
theorem lB {a b:Nat} (h:Nat.ble a b=true):a≤b:=Nat.le_of_ble_eq_true h
theorem gs {p:Prop} (h:p:=by
 try simp only[Uj,RS,reduceAdd,reduceSub,reduceMul,reduceLeDiff,reduceLT,reduceEqDiff,Nat.reduceBEq,↓reduceIte,reduceCtorEq]at g0
 try simp only[Uj,RS,reduceAdd,reduceSub,reduceMul,reduceLeDiff,reduceLT,reduceEqDiff,Nat.reduceBEq,↓reduceIte,reduceCtorEq]at g1
 try simp only[Uj,RS,reduceAdd,reduceSub,reduceMul,reduceLeDiff,reduceLT,reduceEqDiff,Nat.reduceBEq,↓reduceIte,reduceCtorEq]at g2
 try simp only[Uj,RS,reduceAdd,reduceSub,reduceMul,reduceLeDiff,reduceLT,reduceEqDiff,Nat.reduceBEq,↓reduceIte,reduceCtorEq]at g3
 try simp only[Uj,RS,reduceAdd,reduceSub,reduceMul,reduceLeDiff,reduceLT,reduceEqDiff,Nat.reduceBEq,↓reduceIte,reduceCtorEq]at g4
 try simp only[Uj,RS,reduceAdd,reduceSub,reduceMul,reduceLeDiff,reduceLT,reduceEqDiff,Nat.reduceBEq,↓reduceIte,reduceCtorEq]at g5
 try simp only[Uj,RS,reduceAdd,reduceSub,reduceMul,reduceLeDiff,reduceLT,reduceEqDiff,Nat.reduceBEq,↓reduceIte,reduceCtorEq]at g6
 try simp only[Uj,RS,reduceAdd,reduceSub,reduceMul,reduceLeDiff,reduceLT,reduceEqDiff,Nat.reduceBEq,↓reduceIte,reduceCtorEq]at g7
 simp only[Uj,RS,ES, *,reduceAdd,reduceSub,reduceMul,reduceLeDiff,reduceLT,reduceEqDiff,Nat.reduceBEq,↓reduceIte,reduceCtorEq]
 try clear k0
 try clear f0
 repeat' first
  |with_reducible exact A0y
  |((with_reducible refine kH ?_);first|rfl|simp only[Uj,RS,ES])
  |((with_reducible first
   |refine sW (t0 ..) ?_
   |refine sW (t1 ..) ?_);first|rfl|(simp only[Uj,RS,ES,reduceAdd,reduceSub,reduceMul,reduceLeDiff,reduceLT,reduceEqDiff,Nat.reduceBEq,↓reduceIte,reduceCtorEq]<;>rfl)|(simp only[Uj,RS,ES, *,reduceAdd,reduceSub,reduceMul,reduceLeDiff,reduceLT,reduceEqDiff,Nat.reduceBEq,↓reduceIte,reduceCtorEq]<;>rfl))
  |((first
   |(with_reducible first
    |refine A66 (fun h=> ?_) (fun h=> ?_)
    |refine A5I fun a h=> ?_
    |refine ER (g0 ..) fun v=> ?_
    |refine ER (g1 ..) fun v=> ?_
    |refine ER (g2 ..) fun v=> ?_
    |refine ER (g3 ..) fun v=> ?_
    |refine ER (g4 ..) fun v=> ?_
    |refine ER (g5 ..) fun v=> ?_
    |refine ER (g6 ..) fun v=> ?_
    |refine ER (g7 ..) fun v=> ?_
    |refine ER g0 fun v=> ?_
    |refine ER g1 fun v=> ?_
    |refine ER g2 fun v=> ?_
    |refine E6 (p:=nT _ _) fun a h=> ?_
    |refine E6 (p:=ZB _) fun a h=> ?_
    |refine E6 (p:=room _ _) fun a h=> ?_
    |refine E6 (p:=mkN _ _) fun a h=> ?_
    |refine E6 (p:=TC _ _ _) fun a h=> ?_
    |refine E6 (p:=slL _ _ _) fun a h=> ?_
    |refine E6 (p:=SZ _ _) fun a h=> ?_
    |refine E6 (p:=A45 _ _) fun a h=> ?_
    |refine E6 (p:=qS _ _) fun a h=> ?_
    |refine E6 (p:=A46 _ _ _) fun a h=> ?_
    |refine E6 (p:=A6q _ _ _) fun a h=> ?_
    |refine E6 (p:=A47 _ _ _) fun a h=> ?_
    |refine E6 (p:=fw _ _ _) fun a h=> ?_
    |refine A2O fun h=> ?_
    |refine E6 (p:=A4q _) fun a h=> ?_
    |refine E6 (p:=vwB _ _ _) fun a h=> ?_
    |refine E6 (p:=ni _ _ _) fun a h=> ?_)
   |refine ER (g0 ..) fun v=> ?_
   |refine ER (g1 ..) fun v=> ?_
   |refine ER (g2 ..) fun v=> ?_
   |refine ER (g3 ..) fun v=> ?_
   |refine ER (g4 ..) fun v=> ?_
   |refine ER (g5 ..) fun v=> ?_
   |refine ER (g6 ..) fun v=> ?_
   |refine ER (g7 ..) fun v=> ?_
   |refine Ed (g0 _) (by simp only[Uj,RS,List.map_cons,List.map_nil]) fun v=> ?_
   |refine Ed (g0 _ _) (by simp only[Uj,RS,List.map_cons,List.map_nil]) fun v=> ?_
   |refine Ed (g1 _) (by simp only[Uj,RS,List.map_cons,List.map_nil]) fun v=> ?_
   |refine Ed (g1 _ _) (by simp only[Uj,RS,List.map_cons,List.map_nil]) fun v=> ?_
   |refine Ed (g2 _) (by simp only[Uj,RS,List.map_cons,List.map_nil]) fun v=> ?_
   |refine Ed (g2 _ _) (by simp only[Uj,RS,List.map_cons,List.map_nil]) fun v=> ?_
   |refine Ed (g3 _) (by simp only[Uj,RS,List.map_cons,List.map_nil]) fun v=> ?_
   |refine Ed (g3 _ _) (by simp only[Uj,RS,List.map_cons,List.map_nil]) fun v=> ?_
   |refine Ed (g4 _) (by simp only[Uj,RS,List.map_cons,List.map_nil]) fun v=> ?_
   |refine Ed (g4 _ _) (by simp only[Uj,RS,List.map_cons,List.map_nil]) fun v=> ?_
   |refine Ed (g5 _) (by simp only[Uj,RS,List.map_cons,List.map_nil]) fun v=> ?_
   |refine Ed (g5 _ _) (by simp only[Uj,RS,List.map_cons,List.map_nil]) fun v=> ?_
   |refine Ed (g6 _) (by simp only[Uj,RS,List.map_cons,List.map_nil]) fun v=> ?_
   |refine Ed (g6 _ _) (by simp only[Uj,RS,List.map_cons,List.map_nil]) fun v=> ?_
   |refine Ed (g7 _) (by simp only[Uj,RS,List.map_cons,List.map_nil]) fun v=> ?_
   |refine Ed (g7 _ _) (by simp only[Uj,RS,List.map_cons,List.map_nil]) fun v=> ?_)<;>simp only[Uj,RS,ES, *,reduceAdd,reduceSub,reduceMul,reduceLeDiff,reduceLT,reduceEqDiff,Nat.reduceBEq,↓reduceIte,reduceCtorEq])):p:=h
theorem oi : ∀ (code:List Int),Ok (YI code) dL (dn AF dK [.t (.sl false (code.map (rK .u8)))]):=by
 intro code
 rw[A7 AF (fn:=TJ) rfl (xN rfl rfl _) (lB rfl)]
 have k0:= @TJ.eq_1;have f0:= @YI.eq_1
 exact gs
theorem ZN (code:List Int):∀(h:Int) (i:Int),Ok (GN code h i) TM (ev AF YJ (.loop P2) [.lv 0, .th P4] (BE (List.replicate 32 .dead) [(0, .t (.sl false (code.map (rK .u8)))),(3, .t (.v (.int .i64 h))),(4, .t (.v (.int .i64 i)))]) (BF (List.replicate 32 []) [])):=by
 unfold Ok
 refine GN.partial_correctness code _ ?_
 intro F ih h i
 show Ok _ _ _
 have ih:∀(h:Int) (i:Int),Ok (F h i) _ _:=ih
 rw[AU]
 have k0:= @P2.eq_1;have k1:= @P4.eq_1;have t0:=ih
 exact gs
theorem gm : ∀ (code:List Int),Ok (Qh code) TM (dn AF YD [.t (.sl false (code.map (rK .u8)))]):=by
 intro code
 rw[A7 AF (fn:=Ps) rfl (xN rfl rfl _) (lB rfl)]
 have k0:= @Ps.eq_1;have f0:= @Qh.eq_1;have t0:=ZN
 exact gs
theorem dU : ∀ (c:A5),Ok (HD c) WX (dn AF Jb [.lp [.sl false (c.xb.map (rK .u8)), .v (.int .i64 c.xi), .v (.int .i64 c.xh)] 0]):=by
 intro c
 rw[A7 AF (fn:=Nd) rfl (xN rfl rfl _) (lB rfl)]
 have k0:= @Nd.eq_1;have f0:= @HD.eq_1
 exact gs
theorem Eb : ∀ (c:A5) (n:Int),Ok (DT c n) Ul (dn AF EE [.lp [.sl false (c.xb.map (rK .u8)), .v (.int .i64 c.xi), .v (.int .i64 c.xh)] 0, .t (.v (.int .i64 n))]):=by
 intro c n
 rw[A7 AF (fn:=Lc) rfl (xN rfl rfl _) (lB rfl)]
 have k0:= @Lc.eq_1;have f0:= @DT.eq_1;have g0:=dU
 exact gs
theorem Iu : ∀ (c:A5) (n:Int),Ok (Fx c n) WY (dn AF Hw [.lp [.sl false (c.xb.map (rK .u8)), .v (.int .i64 c.xi), .v (.int .i64 c.xh)] 0, .t (.v (.int .i64 n))]):=by
 intro c n
 rw[A7 AF (fn:=NY) rfl (xN rfl rfl _) (lB rfl)]
 have k0:= @NY.eq_1;have f0:= @Fx.eq_1;have g0:=Eb
 exact gs
theorem GT : ∀ (c:A5) (list:List ByteArray),Ok (DU c list) YK (dn AF DO [.lp [.sl false (c.xb.map (rK .u8)), .v (.int .i64 c.xi), .v (.int .i64 c.xh)] 0, .t (.sl false (list.map rS))]):=by
 intro c list
 rw[A7 AF (fn:=Px) rfl (xN rfl rfl _) (lB rfl)]
 have k0:= @Px.eq_1;have f0:= @DU.eq_1;have g0:=Eb
 exact gs
theorem gp : ∀ (c:A5),Ok (Qi c) YL (dn AF YE [.lp [.sl false (c.xb.map (rK .u8)), .v (.int .i64 c.xi), .v (.int .i64 c.xh)] 0]):=by
 intro c
 rw[A7 AF (fn:=Q4) rfl (xN rfl rfl _) (lB rfl)]
 have k0:= @Q4.eq_1;have f0:= @Qi.eq_1;have g0:=GT
 exact gs
theorem dV : ∀ (c:A5),Ok (OU c) WZ (dn AF WU [.lp [.sl false (c.xb.map (rK .u8)), .v (.int .i64 c.xi), .v (.int .i64 c.xh)] 0]):=by
 intro c
 rw[A7 AF (fn:=No) rfl (xN rfl rfl _) (lB rfl)]
 have k0:= @No.eq_1;have f0:= @OU.eq_1;have g0:=GT;have g1:=gp;have g2:=Iu
 exact gs
theorem Ye : ∀ (l:List (A1)) (i:Int) (c1:A5),Ok (CO l i c1) Rk (ev AF Wa (.loop N4) [.lv 0, .th N5] (BE (List.replicate 35 .dead) [(0, .ptr (0,0) [] 0 0 1 0),(3, .ref (6,0) l.length),(4, .t (.v (.int .i64 i)))]) (BF (List.replicate 35 []) [(0,[.mem [[.sl false (c1.xb.map (rK .u8)), .v (.int .i64 c1.xi), .v (.int .i64 c1.xh)]] 0 true]),(6,[.mem (l.map A1.row) 0 false])])):=by
 unfold Ok
 refine CO.partial_correctness _ ?_
 intro F ih l i c1
 show Ok _ _ _
 have ih:∀(l:List (A1)) (i:Int) (c1:A5),Ok (F l i c1) _ _:=ih
 rw[AU]
 have k0:= @N4.eq_1;have k1:= @N5.eq_1;have g0:=dV;have t0:=ih
 exact gs
theorem dW : ∀ (c:A5),Ok (OV c) Rk (dn AF WV [.lp [.sl false (c.xb.map (rK .u8)), .v (.int .i64 c.xi), .v (.int .i64 c.xh)] 0]):=by
 intro c
 rw[A7 AF (fn:=Nf) rfl (xN rfl rfl _) (lB rfl)]
 have k0:= @Nf.eq_1;have f0:= @OV.eq_1;have g0:=Eb;have t0:=Ye
 exact gs
theorem Wz : ∀ (l:List A1) (more:List A1),Ok (EY l more) YM (dn AF TF [.t (.sl false (l.map A1.row)), .t (.sl false (more.map A1.row))]):=by
 intro l more
 rw[A7 AF (fn:=Py) rfl (xN rfl rfl _) (lB rfl)]
 have k0:= @Py.eq_1;have f0:= @EY.eq_1
 exact gs
theorem XH (l:List A1) (pre:ByteArray):∀(i:Int),Ok (BS l pre i) Qm (ev AF Um (.loop Li) [.lv 0, .th Lj] (BE (List.replicate 28 .dead) [(0, .t (.sl false (l.map A1.row))),(1, .t (.v (.string pre))),(6, .t (.v (.int .i64 i)))]) (BF (List.replicate 28 []) [])):=by
 unfold Ok
 refine BS.partial_correctness l pre _ ?_
 intro F ih i
 show Ok _ _ _
 have ih:∀(i:Int),Ok (F i) _ _:=ih
 rw[AU]
 have k0:= @Li.eq_1;have k1:= @Lj.eq_1;have t0:=ih
 exact gs
theorem KL : ∀ (l:List A1) (pre:ByteArray),Ok (BP l pre) Qm (dn AF Gu [.t (.sl false (l.map A1.row)), .t (.v (.string pre))]):=by
 intro l pre
 rw[A7 AF (fn:=Lk) rfl (xN rfl rfl _) (lB rfl)]
 have k0:= @Lk.eq_1;have f0:= @BP.eq_1;have t0:=XH
 exact gs
theorem gq : ∀ (c:A5),Ok (Qj c) YN (dn AF YG [.lp [.sl false (c.xb.map (rK .u8)), .v (.int .i64 c.xi), .v (.int .i64 c.xh)] 0]):=by
 intro c
 rw[A7 AF (fn:=Q0) rfl (xN rfl rfl _) (lB rfl)]
 have k0:= @Q0.eq_1;have f0:= @Qj.eq_1;have g0:=GT
 exact gs
theorem V6 : ∀ (a:A3) (b:A3),Ok (HE a b) Wb (dn AF Rh [.agg ((A3.row a).map .t), .agg ((A3.row b).map .t)]):=by
 intro a b
 rw[A7 AF (fn:=Ng) rfl (xN rfl rfl _) (lB rfl)]
 have k0:= @Ng.eq_1;have f0:= @HE.eq_1
 exact gs
theorem Yf : (∀ (l:List A0),Ok (Qk l) QE (dn AF TH [.t (.sl false (l.map (A0.row false)))]))∧
  (∀(l:List A0) (out:List (A0)) (i:Int),Ok (Jd l out i) QE (ev AF YO (.loop PG) [.lv 0, .th PH] (BE (List.replicate 23 .dead) [(0, .t (.sl false (l.map (A0.row false)))),(3, .ref (6,0) out.length),(4, .t (.v (.int .i64 i)))]) (BF (List.replicate 23 []) [(6,[.mem (out.map (A0.row true)) 0 false])])))∧
  (∀(n:A0),Ok (HF n) Rl (dn AF NU [.agg (((A0.row false) n).map .t)])):=by
 unfold Ok
 refine Qk.mutual_partial_correctness _ _ _ ?_ ?_ ?_
 ·intro F1 ih1 l
  show Ok _ _ _
  have ih1:∀(l:List A0) (out:List (A0)) (i:Int),Ok (F1 l out i) _ _:=ih1
  rw[A7 AF (fn:=Q5) rfl (xN rfl rfl _) (lB rfl)]
  have k0:= @Q5.eq_1;have t0:=ih1
  exact gs
 ·intro F1 F2 ih1 ih2 l out i
  show Ok _ _ _
  have ih2:∀(n:A0),Ok (F2 n) _ _:=ih2
  have ih1:∀(l:List A0) (out:List (A0)) (i:Int),Ok (F1 l out i) _ _:=ih1
  rw[AU]
  have k0:= @PG.eq_1;have k1:= @PH.eq_1;have g0:=ih2;have t0:=ih1
  exact gs
 ·intro F0 ih0 n
  show Ok _ _ _
  have ih0:∀(l:List A0),Ok (F0 l) _ _:=ih0
  rw[A7 AF (fn:=Np) rfl (xN rfl rfl _) (lB rfl)]
  have k0:= @Np.eq_1;have g0:=ih0
  exact gs
theorem A0J (l:List A0):Ok (Qk l) QE (dn AF TH [.t (.sl false (l.map (A0.row false)))]):=Yf.1 l
theorem V7 (n:A0):Ok (HF n) Rl (dn AF NU [.agg (((A0.row false) n).map .t)]):=Yf.2.2 n
theorem ZO (l:List A0):(∀(out:List (A0)) (i:Int) (x8:Bool) (x6:A0),Ok (FM l out i x8 x6) QF (ev AF TN N6 [.th J2, .lv 1, .th J3, .hk [.clean [5,6,54,57]], .th (.loop K7), .lv 0, .th K8] (BE (List.replicate 60 .dead) [(0, .t (.sl false (l.map (A0.row false)))),(3, .ref (7,0) out.length),(4, .t (.v (.int .i64 i))),(5, .ptr (5,0) [] 0 0 1 0),(36, .t (.v (.bool x8)))]) (BF (List.replicate 60 []) [(5,[.mem [[.v (.int .i64 x6.Kind), .v (.string x6.Pre), .v (.string x6.Local), .v (.string x6.Uri), .sl false (x6.Decls.map A1.row), .sl false (x6.Attrs.map A3.row), .sl false (x6.Kids.map (A0.row false)), .v (.string x6.Text)]] 0 false]),(7,[.mem (out.map (A0.row true)) 0 false])])))∧
  (∀(out:List (A0)) (i:Int),Ok (CQ l out i) QF (ev AF TN (.loop K7) [.lv 0, .th K8] (BE (List.replicate 60 .dead) [(0, .t (.sl false (l.map (A0.row false)))),(3, .ref (7,0) out.length),(4, .t (.v (.int .i64 i)))]) (BF (List.replicate 60 []) [(7,[.mem (out.map (A0.row true)) 0 false])]))):=by
 unfold Ok
 refine FM.mutual_partial_correctness l _ _ ?_ ?_
 ·intro F1 ih1 out i x8 x6
  show Ok _ _ _
  have ih1:∀(out:List (A0)) (i:Int),Ok (F1 out i) _ _:=ih1
  have k0:= @N6.eq_1;have k1:= @J3.eq_1;have k2:= @J2.eq_1;have g0:=V7;have t0:=ih1
  exact gs
 ·intro F0 F1 ih0 ih1 out i
  show Ok _ _ _
  have ih1:∀(out:List (A0)) (i:Int),Ok (F1 out i) _ _:=ih1
  have ih0:∀(out:List (A0)) (i:Int) (x8:Bool) (x6:A0),Ok (F0 out i x8 x6) _ _:=ih0
  rw[AU]
  have k0:= @K7.eq_1;have k1:= @J3.eq_1;have k2:= @J2.eq_1;have k3:= @K8.eq_1;have g0:=V7;have t0:=ih1;have t1:=ih0
  exact gs
theorem gt : ∀ (l:List A0),Ok (KZ l) QF (dn AF YC [.t (.sl false (l.map (A0.row false)))]):=by
 intro l
 rw[A7 AF (fn:=Pz) rfl (xN rfl rfl _) (lB rfl)]
 have k0:= @Pz.eq_1;have f0:= @KZ.eq_1;have t0:=fun a0=>(ZO a0).2
 exact gs
theorem ol : (∀ (c:A5) (in1:List A1) (most:Int),Ok (H0 c in1 most) Ew (dn AF RI [.lp [.sl false (c.xb.map (rK .u8)), .v (.int .i64 c.xi), .v (.int .i64 c.xh)] 0, .t (.sl false (in1.map A1.row)), .lp [.v (.int .i64 most)] 0]))∧
  (∀(in1:List A1) (c1:A5) (most:Int) (r:ByteArray×A5) (nDecls:List (A1)),Ok (MV in1 c1 most r nDecls) Ew (ev AF HK Qg [] (BE (List.replicate 175 .dead) [(0, .ptr (0,0) [] 0 0 1 0),(1, .t (.sl false (in1.map A1.row))),(2, .ptr (2,0) [] 0 0 1 0),(6, .ptr (6,0) [] 0 0 1 0),(7, .ptr (7,0) [] 0 0 1 0)]) (BF (List.replicate 175 []) [(0,[.mem [[.sl false (c1.xb.map (rK .u8)), .v (.int .i64 c1.xi), .v (.int .i64 c1.xh)]] 0 true]),(2,[.mem [[.v (.int .i64 most)]] 0 true]),(6,[.mem [[.v (.int .i64 0), .v (.string (⟨#[]⟩)), .v (.string (⟨#[]⟩)), .v (.string (⟨#[]⟩)), .sl true [], .sl true [], .sl true [], .v (.string (⟨#[]⟩))]] 0 false]),(7,[.mem [[.v (.int .i64 1), .v (.string (⟨#[]⟩)), .v (.string r.1), .v (.string (⟨#[]⟩)), .sl true (nDecls.map A1.row), .sl true [], .sl true [], .v (.string (⟨#[]⟩))]] 0 false])])))∧
  (∀(r3:List A1) (c2:A5) (most:Int) (nPre:ByteArray) (r:ByteArray×A5) (nDecls:List (A1)),Ok (Je r3 c2 most nPre r nDecls) Ew (ev AF HK PD [] (BE (List.replicate 175 .dead) [(0, .ptr (0,0) [] 0 0 1 0),(2, .ptr (2,0) [] 0 0 1 0),(6, .ptr (6,0) [] 0 0 1 0),(7, .ptr (7,0) [] 0 0 1 0),(8, .t (.sl false (r3.map A1.row)))]) (BF (List.replicate 175 []) [(0,[.mem [[.sl false (c2.xb.map (rK .u8)), .v (.int .i64 c2.xi), .v (.int .i64 c2.xh)]] 0 true]),(2,[.mem [[.v (.int .i64 most)]] 0 true]),(6,[.mem [[.v (.int .i64 0), .v (.string (⟨#[]⟩)), .v (.string (⟨#[]⟩)), .v (.string (⟨#[]⟩)), .sl true [], .sl true [], .sl true [], .v (.string (⟨#[]⟩))]] 0 false]),(7,[.mem [[.v (.int .i64 1), .v (.string nPre), .v (.string r.1), .v (.string (⟨#[]⟩)), .sl true (nDecls.map A1.row), .sl true [], .sl true [], .v (.string (⟨#[]⟩))]] 0 false])])))∧
  (∀(r3:List A1) (u:ByteArray) (c2:A5) (most:Int) (nPre1:ByteArray) (r:ByteArray×A5) (nDecls:List (A1)),Ok (Jf r3 u c2 most nPre1 r nDecls) Ew (ev AF HK PC [] (BE (List.replicate 175 .dead) [(0, .ptr (0,0) [] 0 0 1 0),(2, .ptr (2,0) [] 0 0 1 0),(6, .ptr (6,0) [] 0 0 1 0),(7, .ptr (7,0) [] 0 0 1 0),(8, .t (.sl false (r3.map A1.row))),(9, .t (.v (.string u)))]) (BF (List.replicate 175 []) [(0,[.mem [[.sl false (c2.xb.map (rK .u8)), .v (.int .i64 c2.xi), .v (.int .i64 c2.xh)]] 0 true]),(2,[.mem [[.v (.int .i64 most)]] 0 true]),(6,[.mem [[.v (.int .i64 0), .v (.string (⟨#[]⟩)), .v (.string (⟨#[]⟩)), .v (.string (⟨#[]⟩)), .sl true [], .sl true [], .sl true [], .v (.string (⟨#[]⟩))]] 0 false]),(7,[.mem [[.v (.int .i64 1), .v (.string nPre1), .v (.string r.1), .v (.string (⟨#[]⟩)), .sl true (nDecls.map A1.row), .sl true [], .sl true [], .v (.string (⟨#[]⟩))]] 0 false])])))∧
  (∀(r3:List A1) (i1:Int) (c4:A5) (most:Int) (nPre1:ByteArray) (r:ByteArray×A5) (u:ByteArray) (nDecls:List (A1)) (nAttrs:List (A3)),Ok (Es r3 i1 c4 most nPre1 r u nDecls nAttrs) Ew (ev AF HK (.loop K3) [.lv 0, .th K6] (BE (List.replicate 175 .dead) [(0, .ptr (0,0) [] 0 0 1 0),(2, .ptr (2,0) [] 0 0 1 0),(6, .ptr (6,0) [] 0 0 1 0),(7, .ptr (7,0) [] 0 0 1 0),(8, .t (.sl false (r3.map A1.row))),(11, .t (.v (.int .i64 i1)))]) (BF (List.replicate 175 []) [(0,[.mem [[.sl false (c4.xb.map (rK .u8)), .v (.int .i64 c4.xi), .v (.int .i64 c4.xh)]] 0 true]),(2,[.mem [[.v (.int .i64 most)]] 0 true]),(6,[.mem [[.v (.int .i64 0), .v (.string (⟨#[]⟩)), .v (.string (⟨#[]⟩)), .v (.string (⟨#[]⟩)), .sl true [], .sl true [], .sl true [], .v (.string (⟨#[]⟩))]] 0 false]),(7,[.mem [[.v (.int .i64 1), .v (.string nPre1), .v (.string r.1), .v (.string u), .sl true (nDecls.map A1.row), .sl true (nAttrs.map A3.row), .sl true [], .v (.string (⟨#[]⟩))]] 0 false])])))∧
  (∀(r3:List A1) (i2:Int) (c5:A5) (most2:Int) (nPre1:ByteArray) (r:ByteArray×A5) (u:ByteArray) (nDecls:List (A1)) (nAttrs:List (A3)) (nKids1:List (A0)),Ok (DI r3 i2 c5 most2 nPre1 r u nDecls nAttrs nKids1) Ew (ev AF HK (.loop K4) [.lv 2, .th K5] (BE (List.replicate 175 .dead) [(0, .ptr (0,0) [] 0 0 1 0),(2, .ptr (2,0) [] 0 0 1 0),(6, .ptr (6,0) [] 0 0 1 0),(7, .ptr (7,0) [] 0 0 1 0),(8, .t (.sl false (r3.map A1.row))),(16, .t (.v (.int .i64 i2)))]) (BF (List.replicate 175 []) [(0,[.mem [[.sl false (c5.xb.map (rK .u8)), .v (.int .i64 c5.xi), .v (.int .i64 c5.xh)]] 0 true]),(2,[.mem [[.v (.int .i64 most2)]] 0 true]),(6,[.mem [[.v (.int .i64 0), .v (.string (⟨#[]⟩)), .v (.string (⟨#[]⟩)), .v (.string (⟨#[]⟩)), .sl true [], .sl true [], .sl true [], .v (.string (⟨#[]⟩))]] 0 false]),(7,[.mem [[.v (.int .i64 1), .v (.string nPre1), .v (.string r.1), .v (.string u), .sl true (nDecls.map A1.row), .sl true (nAttrs.map A3.row), .sl true (nKids1.map (A0.row true)), .v (.string (⟨#[]⟩))]] 0 false])])))∧
  (∀(r3:List A1) (i2:Int) (r42:Int×A5) (x5:Bool) (most2:Int) (nPre1:ByteArray) (r:ByteArray×A5) (u:ByteArray) (nDecls:List (A1)) (nAttrs:List (A3)) (nKids1:List (A0)),Ok (Jg r3 i2 r42 x5 most2 nPre1 r u nDecls nAttrs nKids1) Ew (ev AF HK P9 [.lv 4, .lv 3, .th PB, .hk [.clean [17,129,133,134,142,145,146,153,156,157,164,167,168]], .th (.loop K4), .lv 2, .th K5] (BE (List.replicate 175 .dead) [(0, .ptr (0,0) [] 0 0 1 0),(2, .ptr (2,0) [] 0 0 1 0),(6, .ptr (6,0) [] 0 0 1 0),(7, .ptr (7,0) [] 0 0 1 0),(8, .t (.sl false (r3.map A1.row))),(16, .t (.v (.int .i64 i2))),(125, .t (.v (.int .i64 r42.1))),(136, .t (.v (.bool x5)))]) (BF (List.replicate 175 []) [(0,[.mem [[.sl false (r42.2.xb.map (rK .u8)), .v (.int .i64 r42.2.xi), .v (.int .i64 r42.2.xh)]] 0 true]),(2,[.mem [[.v (.int .i64 (CH most2 1))]] 0 true]),(6,[.mem [[.v (.int .i64 0), .v (.string (⟨#[]⟩)), .v (.string (⟨#[]⟩)), .v (.string (⟨#[]⟩)), .sl true [], .sl true [], .sl true [], .v (.string (⟨#[]⟩))]] 0 false]),(7,[.mem [[.v (.int .i64 1), .v (.string nPre1), .v (.string r.1), .v (.string u), .sl true (nDecls.map A1.row), .sl true (nAttrs.map A3.row), .sl true (nKids1.map (A0.row true)), .v (.string (⟨#[]⟩))]] 0 false])])))∧
  (∀(r3:List A1) (i1:Int) (r31:ByteArray×A5) (most:Int) (nPre1:ByteArray) (r:ByteArray×A5) (u:ByteArray) (nDecls:List (A1)) (nAttrs:List (A3)) (a1:A3),Ok (Hy r3 i1 r31 most nPre1 r u nDecls nAttrs a1) Ew (ev AF HK P7 [.lv 1, .th P8, .hk [.clean [12,61,67,103,104]], .th (.loop K3), .lv 0, .th K6] (BE (List.replicate 175 .dead) [(0, .ptr (0,0) [] 0 0 1 0),(2, .ptr (2,0) [] 0 0 1 0),(6, .ptr (6,0) [] 0 0 1 0),(7, .ptr (7,0) [] 0 0 1 0),(8, .t (.sl false (r3.map A1.row))),(11, .t (.v (.int .i64 i1))),(12, .ptr (12,0) [] 0 0 1 0)]) (BF (List.replicate 175 []) [(0,[.mem [[.sl false (r31.2.xb.map (rK .u8)), .v (.int .i64 r31.2.xi), .v (.int .i64 r31.2.xh)]] 0 true]),(2,[.mem [[.v (.int .i64 most)]] 0 true]),(6,[.mem [[.v (.int .i64 0), .v (.string (⟨#[]⟩)), .v (.string (⟨#[]⟩)), .v (.string (⟨#[]⟩)), .sl true [], .sl true [], .sl true [], .v (.string (⟨#[]⟩))]] 0 false]),(7,[.mem [[.v (.int .i64 1), .v (.string nPre1), .v (.string r.1), .v (.string u), .sl true (nDecls.map A1.row), .sl true (nAttrs.map A3.row), .sl true [], .v (.string (⟨#[]⟩))]] 0 false]),(12,[.mem [[.v (.string a1.Pre), .v (.string a1.Local), .v (.string a1.Uri), .v (.string a1.Val)]] 0 false])]))):=by
 unfold Ok
 refine H0.mutual_partial_correctness _ _ _ _ _ _ _ _ ?_ ?_ ?_ ?_ ?_ ?_ ?_ ?_
 ·intro F1 ih1 c in1 most
  show Ok _ _ _
  have ih1:∀(in1:List A1) (c1:A5) (most:Int) (r:ByteArray×A5) (nDecls:List (A1)),Ok (F1 in1 c1 most r nDecls) _ _:=ih1
  rw[A7 AF (fn:=RL) rfl (xN rfl rfl _) (lB rfl)]
  have k0:= @RL.eq_1;have g0:=GT;have g1:=Iu;have g2:=dW;have t0:=ih1
  exact gs
 ·intro F2 ih2 in1 c1 most r nDecls
  show Ok _ _ _
  have ih2:∀(r3:List A1) (c2:A5) (most:Int) (nPre:ByteArray) (r:ByteArray×A5) (nDecls:List (A1)),Ok (F2 r3 c2 most nPre r nDecls) _ _:=ih2
  have k0:= @Qg.eq_1;have g0:=Wz;have g1:=Iu;have g2:=GT;have t0:=ih2
  exact gs
 ·intro F3 ih3 r3 c2 most nPre r nDecls
  show Ok _ _ _
  have ih3:∀(r3:List A1) (u:ByteArray) (c2:A5) (most:Int) (nPre1:ByteArray) (r:ByteArray×A5) (nDecls:List (A1)),Ok (F3 r3 u c2 most nPre1 r nDecls) _ _:=ih3
  have k0:= @PD.eq_1;have g0:=KL;have t0:=ih3
  exact gs
 ·intro F4 ih4 r3 u c2 most nPre1 r nDecls
  show Ok _ _ _
  have ih4:∀(r3:List A1) (i1:Int) (c4:A5) (most:Int) (nPre1:ByteArray) (r:ByteArray×A5) (u:ByteArray) (nDecls:List (A1)) (nAttrs:List (A3)),Ok (F4 r3 i1 c4 most nPre1 r u nDecls nAttrs) _ _:=ih4
  have k0:= @PC.eq_1;have g0:=Eb;have t0:=ih4
  exact gs
 ·intro F5 F7 ih5 ih7 r3 i1 c4 most nPre1 r u nDecls nAttrs
  show Ok _ _ _
  have ih7:∀(r3:List A1) (i1:Int) (r31:ByteArray×A5) (most:Int) (nPre1:ByteArray) (r:ByteArray×A5) (u:ByteArray) (nDecls:List (A1)) (nAttrs:List (A3)) (a1:A3),Ok (F7 r3 i1 r31 most nPre1 r u nDecls nAttrs a1) _ _:=ih7
  have ih5:∀(r3:List A1) (i2:Int) (c5:A5) (most2:Int) (nPre1:ByteArray) (r:ByteArray×A5) (u:ByteArray) (nDecls:List (A1)) (nAttrs:List (A3)) (nKids1:List (A0)),Ok (F5 r3 i2 c5 most2 nPre1 r u nDecls nAttrs nKids1) _ _:=ih5
  rw[AU]
  have k0:= @K3.eq_1;have k1:= @K6.eq_1;have g0:=GT;have g1:=gq;have g2:=KL;have g3:=Eb;have t0:=ih7;have t1:=ih5
  exact gs
 ·intro F6 ih6 r3 i2 c5 most2 nPre1 r u nDecls nAttrs nKids1
  show Ok _ _ _
  have ih6:∀(r3:List A1) (i2:Int) (r42:Int×A5) (x5:Bool) (most2:Int) (nPre1:ByteArray) (r:ByteArray×A5) (u:ByteArray) (nDecls:List (A1)) (nAttrs:List (A3)) (nKids1:List (A0)),Ok (F6 r3 i2 r42 x5 most2 nPre1 r u nDecls nAttrs nKids1) _ _:=ih6
  rw[AU]
  have k0:= @K4.eq_1;have k1:= @K5.eq_1;have g0:=Eb;have g1:=gt;have t0:=ih6
  exact gs
 ·intro F0 F5 ih0 ih5 r3 i2 r42 x5 most2 nPre1 r u nDecls nAttrs nKids1
  show Ok _ _ _
  have ih0:∀(c:A5) (in1:List A1) (most:Int),Ok (F0 c in1 most) _ _:=ih0
  have ih5:∀(r3:List A1) (i2:Int) (c5:A5) (most2:Int) (nPre1:ByteArray) (r:ByteArray×A5) (u:ByteArray) (nDecls:List (A1)) (nAttrs:List (A3)) (nKids1:List (A0)),Ok (F5 r3 i2 c5 most2 nPre1 r u nDecls nAttrs nKids1) _ _:=ih5
  have k0:= @P9.eq_1;have k1:= @PB.eq_1;have g0:=GT;have g1:=ih0;have t0:=ih5
  exact gs
 ·intro F4 ih4 r3 i1 r31 most nPre1 r u nDecls nAttrs a1
  show Ok _ _ _
  have ih4:∀(r3:List A1) (i1:Int) (c4:A5) (most:Int) (nPre1:ByteArray) (r:ByteArray×A5) (u:ByteArray) (nDecls:List (A1)) (nAttrs:List (A3)),Ok (F4 r3 i1 c4 most nPre1 r u nDecls nAttrs) _ _:=ih4
  have k0:= @P7.eq_1;have k1:= @P8.eq_1;have g0:=V6;have t0:=ih4
  exact gs
theorem mD (c:A5) (in1:List A1) (most:Int):Ok (H0 c in1 most) Ew (dn AF RI [.lp [.sl false (c.xb.map (rK .u8)), .v (.int .i64 c.xi), .v (.int .i64 c.xh)] 0, .t (.sl false (in1.map A1.row)), .lp [.v (.int .i64 most)] 0]):=ol.1 c in1 most
theorem dX : (∀ (n:A0),Ok (Bj n) Ma (dn AF LZ [.agg (((A0.row false) n).map .t)]))∧
  (∀(k:Int) (i:Int) (n:A0),Ok (Ak k i n) Ma (ev AF Un (.loop Lx) [.lv 0, .th Ly] (BE (List.replicate 25 .dead) [(1, .ptr (1,0) [] 0 0 1 0),(3, .t (.v (.int .i64 k))),(4, .t (.v (.int .i64 i)))]) (BF (List.replicate 25 []) [(1,[.mem [[.v (.int .i64 n.Kind), .v (.string n.Pre), .v (.string n.Local), .v (.string n.Uri), .sl false (n.Decls.map A1.row), .sl false (n.Attrs.map A3.row), .sl false (n.Kids.map (A0.row false)), .v (.string n.Text)]] 0 false])]))):=by
 unfold Ok
 refine Bj.mutual_partial_correctness _ _ ?_ ?_
 ·intro F1 ih1 n
  show Ok _ _ _
  have ih1:∀(k:Int) (i:Int) (n:A0),Ok (F1 k i n) _ _:=ih1
  rw[A7 AF (fn:=Lz) rfl (xN rfl rfl _) (lB rfl)]
  have k0:= @Lz.eq_1;have t0:=ih1
  exact gs
 ·intro F0 F1 ih0 ih1 k i n
  show Ok _ _ _
  have ih0:∀(n:A0),Ok (F0 n) _ _:=ih0
  have ih1:∀(k:Int) (i:Int) (n:A0),Ok (F1 k i n) _ _:=ih1
  rw[AU]
  have k0:= @Lx.eq_1;have k1:= @Ly.eq_1;have g0:=ih0;have t0:=ih1
  exact gs
theorem b8 (n:A0):Ok (Bj n) Ma (dn AF LZ [.agg (((A0.row false) n).map .t)]):=dX.1 n
end TT
