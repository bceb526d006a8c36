import Derived.Test.YtpmnlfgdicmiiaaGreatDoorTKK
import Derived.Test.YtpmnlfgdicmiiaaGreatDoorTDefs
set_option maxHeartbeats 2000000
set_option linter.unusedVariables false
set_option linter.unusedSimpArgs false
set_option linter.defProp false
set_option maxRecDepth 100000
namespace TT
open Go
open Nat (reduceAdd reduceSub reduceMul reduceLeDiff reduceLT reduceEqDiff)
def kw (r:Bool):BD:=⟨[.t (.v (.bool r))],[]⟩
def yy : Cx:=⟨1,[0],[.tmp 2]⟩
def Wk (r:A7):BD:=⟨[.box [.sl false (r.xb.map (rK .u8)), .v (.int .i64 r.xi), .v (.int .i64 r.xh)]],[]⟩
def dN : Cx:=⟨1,[0],[.tmp 2]⟩
def aU (r:Int×A7):BD:=⟨[.t (.v (.int .i64 r.1))],[some [[.sl false (r.2.xb.map (rK .u8)), .v (.int .i64 r.2.xi), .v (.int .i64 r.2.xh)]]]⟩
def oB : Cx:=⟨1,[1],[.tmp 2]⟩
def YM (r:Int×A7):BD:=⟨[.t (.v (.int .i64 r.1))],[some [[.sl false (r.2.xb.map (rK .u8)), .v (.int .i64 r.2.xi), .v (.int .i64 r.2.xh)]]]⟩
def kx : Cx:=⟨2,[1,0],[.tmp 4]⟩
def aV (r:Bool×A7):BD:=⟨[.t (.v (.bool r.1))],[some [[.sl false (r.2.xb.map (rK .u8)), .v (.int .i64 r.2.xi), .v (.int .i64 r.2.xh)]]]⟩
def oC : Cx:=⟨2,[1,0],[.tmp 4]⟩
def dO (r:ByteArray×A7):BD:=⟨[.t (.v (.string r.1))],[some [[.sl false (r.2.xb.map (rK .u8)), .v (.int .i64 r.2.xi), .v (.int .i64 r.2.xh)]]]⟩
def tL : Cx:=⟨2,[1,0],[.tmp 4]⟩
def dP (r:ByteArray×A7):BD:=⟨[.t (.v (.string r.1))],[some [[.sl false (r.2.xb.map (rK .u8)), .v (.int .i64 r.2.xi), .v (.int .i64 r.2.xh)]]]⟩
def tM : Cx:=⟨1,[1],[.tmp 2]⟩
def aW (r:A2×A7):BD:=⟨[.agg [.v (.string r.1.Pre), .v (.string r.1.Uri)]],[some [[.sl false (r.2.xb.map (rK .u8)), .v (.int .i64 r.2.xi), .v (.int .i64 r.2.xh)]]]⟩
def oD : Cx:=⟨1,[1],[.cell 2 2 true]⟩
def VA (r:List A2×A7):BD:=⟨[.t (.sl true (r.1.map A2.row))],[some [[.sl false (r.2.xb.map (rK .u8)), .v (.int .i64 r.2.xi), .v (.int .i64 r.2.xh)]]]⟩
def aX : Cx:=⟨1,[1],[.tmp 2]⟩
def dQ (r:List A2):BD:=⟨[.t (.sl true (r.map A2.row))],[]⟩
def tN : Cx:=⟨2,[0,0],[.tmp 4]⟩
def U8 (r:ByteArray×Bool):BD:=⟨[.t (.v (.string r.1)), .t (.v (.bool r.2))],[]⟩
def YN : Cx:=⟨2,[0,0],[.tmp 4, .tmp 5]⟩
def dR (r:ByteArray×A7):BD:=⟨[.t (.v (.string r.1))],[some [[.sl false (r.2.xb.map (rK .u8)), .v (.int .i64 r.2.xi), .v (.int .i64 r.2.xh)]]]⟩
def tO : Cx:=⟨1,[1],[.tmp 2]⟩
def aY (r:Bool):BD:=⟨[.t (.v (.bool r))],[]⟩
def oE : Cx:=⟨2,[0,0],[.tmp 4]⟩
def TV (r:List A0):BD:=⟨[.t (.sl true (r.map (A0.row true)))],[]⟩
def dS : Cx:=⟨1,[0],[.tmp 2]⟩
def VB (r:A0):BD:=⟨[.agg [.v (.int .i64 r.Kind), .v (.string r.Pre), .v (.string r.Local), .v (.string r.Uri), .sl true (r.Decls.map A2.row), .sl true (r.Attrs.map A5.row), .sl true (r.Kids.map (A0.row true)), .v (.string r.Text)]],[]⟩
def oG : Cx:=⟨1,[0],[.cell 2 8 true]⟩
def TW (r:List A0):BD:=⟨[.t (.sl true (r.map (A0.row true)))],[]⟩
def Wl : Cx:=⟨1,[0],[.tmp 2]⟩
def GF (r:A0×A7×Int):BD:=⟨[.agg [.v (.int .i64 r.1.Kind), .v (.string r.1.Pre), .v (.string r.1.Local), .v (.string r.1.Uri), .sl true (r.1.Decls.map A2.row), .sl true (r.1.Attrs.map A5.row), .sl true (r.1.Kids.map (A0.row true)), .v (.string r.1.Text)]],[some [[.sl false (r.2.1.xb.map (rK .u8)), .v (.int .i64 r.2.1.xi), .v (.int .i64 r.2.1.xh)]],some [[.v (.int .i64 r.2.2)]]]⟩
def J5 : Cx:=⟨3,[1,0,1],[.cell 6 8 true]⟩
def PK (r:Int):BD:=⟨[.t (.v (.int .i64 r))],[]⟩
def YO : Cx:=⟨1,[0],[.tmp 2]⟩
def gu (r:Bool):BD:=⟨[.t (.v (.bool r))],[]⟩
def wC : Cx:=⟨3,[0,0,0],[.tmp 6]⟩
def Jq (r:Int×Int×Bool):BD:=⟨[.t (.v (.int .i64 r.1)), .t (.v (.int .i64 r.2.1)), .t (.v (.bool r.2.2))],[]⟩
def M7 : Cx:=⟨2,[0,0],[.tmp 4, .tmp 5, .tmp 6]⟩
def SN (r:Bool):BD:=⟨[.t (.v (.bool r))],[]⟩
def XH : Cx:=⟨2,[0,0],[.tmp 4]⟩
def YP (r:Bool):BD:=⟨[.t (.v (.bool r))],[]⟩
def ky : Cx:=⟨1,[0],[.tmp 2]⟩
def aZ (r:Bool):BD:=⟨[.t (.v (.bool r))],[]⟩
def oH : Cx:=⟨1,[0],[.tmp 2]⟩
def U9 (r:Bool):BD:=⟨[.t (.v (.bool r))],[]⟩
def YQ : Cx:=⟨1,[0],[.tmp 2]⟩
def dT (r:Bool):BD:=⟨[.t (.v (.bool r))],[]⟩
def tP : Cx:=⟨1,[0],[.tmp 2]⟩
def dU (r:Bool):BD:=⟨[.t (.v (.bool r))],[]⟩
def tQ : Cx:=⟨1,[0],[.tmp 2]⟩
def ac (r:Bool):BD:=⟨[.t (.v (.bool r))],[]⟩
def oI : Cx:=⟨1,[0],[.tmp 2]⟩
def UA (r:Bool):BD:=⟨[.t (.v (.bool r))],[]⟩
def YR : Cx:=⟨1,[0],[.tmp 2]⟩
def ae (r:Bool):BD:=⟨[.t (.v (.bool r))],[]⟩
def oJ : Cx:=⟨1,[0],[.tmp 2]⟩
def VC (r:Bool):BD:=⟨[.t (.v (.bool r))],[]⟩
def af : Cx:=⟨1,[0],[.tmp 2]⟩
def UB (r:Bool):BD:=⟨[.t (.v (.bool r))],[]⟩
def YS : Cx:=⟨1,[0],[.tmp 2]⟩
def ah (r:Bool):BD:=⟨[.t (.v (.bool r))],[]⟩
def oK : Cx:=⟨1,[0],[.tmp 2]⟩
def Wm (r:Bool):BD:=⟨[.t (.v (.bool r))],[]⟩
def dV : Cx:=⟨2,[0,0],[.tmp 4]⟩
def dW (r:Bool):BD:=⟨[.t (.v (.bool r))],[]⟩
def tR : Cx:=⟨1,[0],[.tmp 2]⟩
def YT (r:Bool):BD:=⟨[.t (.v (.bool r))],[]⟩
def kz : Cx:=⟨1,[0],[.tmp 2]⟩
def SP (r:Bool):BD:=⟨[.t (.v (.bool r))],[]⟩
def XI : Cx:=⟨1,[0],[.tmp 2]⟩
def TX (r:Bool):BD:=⟨[.t (.v (.bool r))],[]⟩
def Wn : Cx:=⟨1,[0],[.tmp 2]⟩
def M8 (r:Bool):BD:=⟨[.t (.v (.bool r))],[]⟩
def VD : Cx:=⟨2,[0,0],[.tmp 4]⟩
def R7 (r:Bool):BD:=⟨[.t (.v (.bool r))],[]⟩
def VE : Cx:=⟨1,[0],[.tmp 2]⟩
def Jr (r:Bool):BD:=⟨[.t (.v (.bool r))],[]⟩
def R8 : Cx:=⟨2,[0,0],[.tmp 4]⟩
def aj (r:Bool):BD:=⟨[.t (.v (.bool r))],[]⟩
def oN : Cx:=⟨1,[0],[.tmp 2]⟩
def R9 (r:A0×A7):BD:=⟨[.agg [.v (.int .i64 r.1.Kind), .v (.string r.1.Pre), .v (.string r.1.Local), .v (.string r.1.Uri), .sl true (r.1.Decls.map A2.row), .sl true (r.1.Attrs.map A5.row), .sl true (r.1.Kids.map (A0.row true)), .v (.string r.1.Text)]],[some [[.sl false (r.2.xb.map (rK .u8)), .v (.int .i64 r.2.xi), .v (.int .i64 r.2.xh)]]]⟩
def VF : Cx:=⟨1,[1],[.cell 2 8 true]⟩
def dX (r:Int×A7):BD:=⟨[.t (.v (.int .i64 r.1))],[some [[.sl false (r.2.xb.map (rK .u8)), .v (.int .i64 r.2.xi), .v (.int .i64 r.2.xh)]]]⟩
def tT : Cx:=⟨2,[1,0],[.tmp 4]⟩
def PL (r:List Int×A7):BD:=⟨[.t (.sl true (r.1.map rI))],[some [[.sl false (r.2.xb.map (rK .u8)), .v (.int .i64 r.2.xi), .v (.int .i64 r.2.xh)]]]⟩
def UC : Cx:=⟨2,[1,0],[.tmp 4]⟩
def Un (r:A0×List Int):BD:=⟨[.agg [.v (.int .i64 r.1.Kind), .v (.string r.1.Pre), .v (.string r.1.Local), .v (.string r.1.Uri), .sl false (r.1.Decls.map A2.row), .sl false (r.1.Attrs.map A5.row), .sl false (r.1.Kids.map (A0.row false)), .v (.string r.1.Text)], .t (.sl true (r.2.map rI))],[]⟩
def dY : Cx:=⟨1,[0],[.cell 2 8 true, .tmp 3]⟩
def qV (r:Bool):BD:=⟨[.t (.v (.bool r))],[]⟩
def A1g : Cx:=⟨3,[0,0,0],[.tmp 6]⟩
def Se (r:List A2):BD:=⟨[.t (.sl true (r.map A2.row))],[]⟩
def Sg : Cx:=⟨1,[0],[.tmp 2]⟩
def Sh (r:List A5):BD:=⟨[.t (.sl true (r.map A5.row))],[]⟩
def Si : Cx:=⟨1,[0],[.tmp 2]⟩
def QD (r:A0):BD:=⟨[.agg [.v (.int .i64 r.Kind), .v (.string r.Pre), .v (.string r.Local), .v (.string r.Uri), .sl true (r.Decls.map A2.row), .sl true (r.Attrs.map A5.row), .sl true (r.Kids.map (A0.row true)), .v (.string r.Text)]],[]⟩
def fI : Cx:=⟨1,[0],[.cell 2 8 true]⟩
def KE (r:List A0):BD:=⟨[.t (.sl true (r.map (A0.row true)))],[]⟩
def Uo : Cx:=⟨1,[0],[.tmp 2]⟩
def VG (r:A0×Bool):BD:=⟨[.agg [.v (.int .i64 r.1.Kind), .v (.string r.1.Pre), .v (.string r.1.Local), .v (.string r.1.Uri), .sl true (r.1.Decls.map A2.row), .sl true (r.1.Attrs.map A5.row), .sl true (r.1.Kids.map (A0.row true)), .v (.string r.1.Text)], .t (.v (.bool r.2))],[]⟩
def ak : Cx:=⟨2,[0,0],[.cell 4 8 true, .tmp 5]⟩
def VH (r:Int):BD:=⟨[.t (.v (.int .i64 r))],[]⟩
def al : Cx:=⟨2,[0,0],[.tmp 4]⟩
def XJ (r:Int):BD:=⟨[.t (.v (.int .i64 r))],[]⟩
def iR : Cx:=⟨1,[0],[.tmp 2]⟩
def VI (r:B8×Bool):BD:=⟨[.agg [.v (.string r.1.Id), .sl true (r.1.Steps.map (AE.row true))], .t (.v (.bool r.2))],[]⟩
def am : Cx:=⟨2,[0,0],[.cell 4 2 true, .tmp 5]⟩
def VJ (r:A0×Bool):BD:=⟨[.agg [.v (.int .i64 r.1.Kind), .v (.string r.1.Pre), .v (.string r.1.Local), .v (.string r.1.Uri), .sl true (r.1.Decls.map A2.row), .sl true (r.1.Attrs.map A5.row), .sl true (r.1.Kids.map (A0.row true)), .v (.string r.1.Text)], .t (.v (.bool r.2))],[]⟩
def ao : Cx:=⟨2,[0,0],[.cell 4 8 true, .tmp 5]⟩
def UD (r:AE):BD:=⟨[.agg [.v (.bool r.Deep), .v (.int .i64 r.Kind), .v (.string r.Pre), .v (.string r.Local), .sl true (r.Preds.map AH.row)]],[]⟩
def YU : Cx:=⟨2,[0,0],[.cell 4 5 true]⟩
def VK (r:B8×Bool):BD:=⟨[.agg [.v (.string r.1.Id), .sl true (r.1.Steps.map (AE.row true))], .t (.v (.bool r.2))],[]⟩
def ap : Cx:=⟨2,[0,0],[.cell 4 2 true, .tmp 5]⟩
def UE (r:A0×List Int×A5):BD:=⟨[.agg [.v (.int .i64 r.1.Kind), .v (.string r.1.Pre), .v (.string r.1.Local), .v (.string r.1.Uri), .sl false (r.1.Decls.map A2.row), .sl false (r.1.Attrs.map A5.row), .sl false (r.1.Kids.map (A0.row false)), .v (.string r.1.Text)], .t (.sl true (r.2.1.map rI)), .agg [.v (.string r.2.2.Pre), .v (.string r.2.2.Local), .v (.string r.2.2.Uri), .v (.string r.2.2.Val)]],[]⟩
def bZ : Cx:=⟨1,[0],[.cell 2 8 true, .tmp 3, .cell 4 4 true]⟩
def E9 (r:Int×Int):BD:=⟨[.t (.v (.int .i32 r.1)), .t (.v (.int .i64 r.2))],[]⟩
def NY : Cx:=⟨1,[0],[.tmp 2, .tmp 3]⟩
def aq (r:Int×Int×Bool):BD:=⟨[.t (.v (.int .i64 r.1)), .t (.v (.int .i64 r.2.1)), .t (.v (.bool r.2.2))],[]⟩
def oO : Cx:=⟨2,[0,0],[.tmp 4, .tmp 5, .tmp 6]⟩
def YV (r:Bool×Int):BD:=⟨[.t (.v (.bool r.1))],[some [[.v (.int .i64 r.2)]]]⟩
def l9 : Cx:=⟨2,[0,1],[.tmp 3]⟩
def ER (r:Int×Int):BD:=⟨[.t (.v (.int .i64 r.1))],[some [[.v (.int .i64 r.2)]]]⟩
def Hi : Cx:=⟨2,[0,1],[.tmp 4]⟩
def GH (r:Bool×Int):BD:=⟨[.t (.v (.bool r.1))],[some [[.v (.int .i64 r.2)]]]⟩
def M9 : Cx:=⟨2,[0,1],[.tmp 4]⟩
def dZ (r:Bool):BD:=⟨[.t (.v (.bool r))],[]⟩
def tU : Cx:=⟨2,[0,0],[.tmp 4]⟩
def YW (r:Bool):BD:=⟨[.t (.v (.bool r))],[]⟩
def lA : Cx:=⟨1,[0],[.tmp 2]⟩
def au (r:Bool):BD:=⟨[.t (.v (.bool r))],[]⟩
def oP : Cx:=⟨1,[0],[.tmp 2]⟩
def UF (r:Bool):BD:=⟨[.t (.v (.bool r))],[]⟩
def YX : Cx:=⟨1,[0],[.tmp 2]⟩
def av (r:Bool):BD:=⟨[.t (.v (.bool r))],[]⟩
def oQ : Cx:=⟨2,[0,0],[.tmp 4]⟩
def aw (r:Bool):BD:=⟨[.t (.v (.bool r))],[]⟩
def oR : Cx:=⟨1,[0],[.tmp 2]⟩
def UG (r:Bool):BD:=⟨[.t (.v (.bool r))],[]⟩
def YY : Cx:=⟨1,[0],[.tmp 2]⟩
def ax (r:Bool):BD:=⟨[.t (.v (.bool r))],[]⟩
def oS : Cx:=⟨1,[0],[.tmp 2]⟩
def N9 (r:Bool):BD:=⟨[.t (.v (.bool r))],[]⟩
def ba : Cx:=⟨2,[0,0],[.tmp 4]⟩
def da (r:Bool):BD:=⟨[.t (.v (.bool r))],[]⟩
def tW : Cx:=⟨1,[0],[.tmp 2]⟩
def MA (r:Bool):BD:=⟨[.t (.v (.bool r))],[]⟩
def RA : Cx:=⟨2,[0,0],[.tmp 4]⟩
def XK (r:Bool×AE):BD:=⟨[.t (.v (.bool r.1))],[some [[.v (.bool r.2.Deep), .v (.int .i64 r.2.Kind), .v (.string r.2.Pre), .v (.string r.2.Local), .sl false (r.2.Preds.map AH.row)]]]⟩
def iS : Cx:=⟨2,[0,1],[.tmp 3]⟩
def ET (r:Int×AE):BD:=⟨[.t (.v (.int .i64 r.1))],[some [[.v (.bool r.2.Deep), .v (.int .i64 r.2.Kind), .v (.string r.2.Pre), .v (.string r.2.Local), .sl false (r.2.Preds.map AH.row)]]]⟩
def Hj : Cx:=⟨2,[0,1],[.tmp 4]⟩
def GI (r:Bool×AE):BD:=⟨[.t (.v (.bool r.1))],[some [[.v (.bool r.2.Deep), .v (.int .i64 r.2.Kind), .v (.string r.2.Pre), .v (.string r.2.Local), .sl false (r.2.Preds.map AH.row)]]]⟩
def MB : Cx:=⟨2,[0,1],[.tmp 4]⟩
def RB (r:Bool):BD:=⟨[.t (.v (.bool r))],[]⟩
def VL : Cx:=⟨2,[0,0],[.tmp 4]⟩
def Wo (r:Bool):BD:=⟨[.t (.v (.bool r))],[]⟩
def db : Cx:=⟨1,[0],[.tmp 2]⟩
def YZ (r:B8×Bool):BD:=⟨[.agg [.v (.string r.1.Id), .sl true (r.1.Steps.map (AE.row true))], .t (.v (.bool r.2))],[]⟩
def lC : Cx:=⟨3,[0,0,0],[.cell 6 2 true, .tmp 7]⟩
def QE (r:ByteArray×ByteArray×Bool):BD:=⟨[.t (.v (.string r.1)), .t (.v (.string r.2.1)), .t (.v (.bool r.2.2))],[]⟩
def W5 : Cx:=⟨1,[0],[.tmp 2, .tmp 3, .tmp 4]⟩
def SQ (r:ByteArray):BD:=⟨[.t (.v (.string r))],[]⟩
def XL : Cx:=⟨2,[0,0],[.tmp 4]⟩
def ay (r:Bool):BD:=⟨[.t (.v (.bool r))],[]⟩
def oT : Cx:=⟨1,[0],[.tmp 2]⟩
def QF (r:Bool):BD:=⟨[.t (.v (.bool r))],[]⟩
def W6 : Cx:=⟨2,[0,0],[.tmp 4]⟩
def GN (r:Bool):BD:=⟨[.t (.v (.bool r))],[]⟩
def Is : Cx:=⟨2,[0,0],[.tmp 4]⟩
def Wp (r:Bool):BD:=⟨[.t (.v (.bool r))],[]⟩
def dc : Cx:=⟨1,[0],[.tmp 2]⟩
def Ya (r:B8×Bool):BD:=⟨[.agg [.v (.string r.1.Id), .sl true (r.1.Steps.map (AE.row true))], .t (.v (.bool r.2))],[]⟩
def lD : Cx:=⟨3,[0,0,0],[.cell 6 2 true, .tmp 7]⟩
def Lg (r:Bool):BD:=⟨[.t (.v (.bool r))],[]⟩
def Sj : Cx:=⟨2,[0,0],[.tmp 4]⟩
def W7 (r:Bool):BD:=⟨[.t (.v (.bool r))],[]⟩
def fJ : Cx:=⟨2,[0,0],[.tmp 4]⟩
def EA (r:Bool):BD:=⟨[.t (.v (.bool r))],[]⟩
def Gy : Cx:=⟨3,[0,0,0],[.tmp 6]⟩
def Yb (r:Bool):BD:=⟨[.t (.v (.bool r))],[]⟩
def lE : Cx:=⟨2,[0,0],[.tmp 4]⟩
def PM (r:Int):BD:=⟨[.t (.v (.int .i64 r))],[]⟩
def Yc : Cx:=⟨1,[0],[.tmp 2]⟩
def Hk (r:Bool):BD:=⟨[.t (.v (.bool r))],[]⟩
def PN : Cx:=⟨2,[0,0],[.tmp 4]⟩
def Sk (r:Bool):BD:=⟨[.t (.v (.bool r))],[]⟩
def Zc : Cx:=⟨2,[0,0],[.tmp 4]⟩
def az (r:Bool):BD:=⟨[.t (.v (.bool r))],[]⟩
def oU : Cx:=⟨1,[0],[.tmp 2]⟩
def Lh (r:Bool):BD:=⟨[.t (.v (.bool r))],[]⟩
def Zd : Cx:=⟨2,[0,0],[.tmp 4]⟩
def Yd (r:Bool):BD:=⟨[.t (.v (.bool r))],[]⟩
def lF : Cx:=⟨1,[0],[.tmp 2]⟩
def b6 (r:Bool):BD:=⟨[.t (.v (.bool r))],[]⟩
def oV : Cx:=⟨2,[0,0],[.tmp 4]⟩
def VM (r:Bool):BD:=⟨[.t (.v (.bool r))],[]⟩
def b7 : Cx:=⟨1,[0],[.tmp 2]⟩
def Hl (r:Bool):BD:=⟨[.t (.v (.bool r))],[]⟩
def PO : Cx:=⟨2,[0,0],[.tmp 4]⟩
def Sl (r:Bool):BD:=⟨[.t (.v (.bool r))],[]⟩
def Ze : Cx:=⟨2,[0,0],[.tmp 4]⟩
def de (r:Bool):BD:=⟨[.t (.v (.bool r))],[]⟩
def tX : Cx:=⟨1,[0],[.tmp 2]⟩
def dg (r:Bool):BD:=⟨[.t (.v (.bool r))],[]⟩
def tY : Cx:=⟨2,[0,0],[.tmp 4]⟩
def b8 (r:Bool):BD:=⟨[.t (.v (.bool r))],[]⟩
def oW : Cx:=⟨1,[0],[.tmp 2]⟩
def UH (r:Bool):BD:=⟨[.t (.v (.bool r))],[]⟩
def Ye : Cx:=⟨1,[0],[.tmp 2]⟩
def b9 (r:Bool):BD:=⟨[.t (.v (.bool r))],[]⟩
def oX : Cx:=⟨1,[0],[.tmp 2]⟩
def PP (r:Int):BD:=⟨[.t (.v (.int .i64 r))],[]⟩
def dh : Cx:=⟨2,[0,0],[.tmp 4]⟩
def Sm (r:Int):BD:=⟨[.t (.v (.int .i64 r))],[]⟩
def Zf : Cx:=⟨2,[0,0],[.tmp 4]⟩
def UI (r:Bool):BD:=⟨[.t (.v (.bool r))],[]⟩
def Yf : Cx:=⟨1,[0],[.tmp 2]⟩
def PQ (r:Bool):BD:=⟨[.t (.v (.bool r))],[]⟩
def Up : Cx:=⟨1,[0],[.tmp 2]⟩
def VN (r:Bool):BD:=⟨[.t (.v (.bool r))],[]⟩
def oY : Cx:=⟨2,[0,0],[.tmp 4]⟩
def Do (r:Bool×Int):BD:=⟨[.t (.v (.bool r.1))],[some [[.v (.int .i64 r.2)]]]⟩
def MC : Cx:=⟨2,[0,1],[.tmp 4]⟩
def D1 (r:Int×Int):BD:=⟨[.t (.v (.int .i64 r.1))],[some [[.v (.int .i64 r.2)]]]⟩
def Hm : Cx:=⟨2,[0,1],[.tmp 4]⟩
def SR (r:Bool×Int):BD:=⟨[.t (.v (.bool r.1))],[some [[.v (.int .i64 r.2)]]]⟩
def iT : Cx:=⟨2,[0,1],[.tmp 3]⟩
def VO (r:Bool):BD:=⟨[.t (.v (.bool r))],[]⟩
def oZ : Cx:=⟨2,[0,0],[.tmp 4]⟩
def VP (r:Bool):BD:=⟨[.t (.v (.bool r))],[]⟩
def bA : Cx:=⟨1,[0],[.tmp 2]⟩
def bB (r:Bool):BD:=⟨[.t (.v (.bool r))],[]⟩
def oa : Cx:=⟨2,[0,0],[.tmp 4]⟩
def bC (r:Bool):BD:=⟨[.t (.v (.bool r))],[]⟩
def oc : Cx:=⟨1,[0],[.tmp 2]⟩
def Yg (r:ByteArray×Bool):BD:=⟨[.t (.v (.string r.1)), .t (.v (.bool r.2))],[]⟩
def lG : Cx:=⟨2,[0,0],[.cell 4 1 false, .cell 5 1 false]⟩
def W8 (r:Bool):BD:=⟨[.t (.v (.bool r))],[]⟩
def fK : Cx:=⟨2,[0,0],[.tmp 3]⟩
def UJ (r:Bool):BD:=⟨[.t (.v (.bool r))],[]⟩
def bc : Cx:=⟨2,[0,0],[.tmp 3]⟩
def EB (r:Int):BD:=⟨[.t (.v (.int .i64 r))],[]⟩
def Gz : Cx:=⟨2,[0,0],[.tmp 4]⟩
def Fv (r:Bool):BD:=⟨[.t (.v (.bool r))],[]⟩
def Li : Cx:=⟨2,[0,0],[.tmp 4]⟩
def W9 (r:Bool):BD:=⟨[.t (.v (.bool r))],[]⟩
def fL : Cx:=⟨2,[0,0],[.tmp 3]⟩
def Ek (r:Int):BD:=⟨[.t (.v (.int .i64 r))],[]⟩
def IE : Cx:=⟨2,[0,0],[.tmp 4]⟩
def Gp (r:Bool):BD:=⟨[.t (.v (.bool r))],[]⟩
def NA : Cx:=⟨2,[0,0],[.tmp 4]⟩
def di (r:Bool):BD:=⟨[.t (.v (.bool r))],[]⟩
def tZ : Cx:=⟨2,[0,0],[.tmp 4]⟩
def UK (r:List Int):BD:=⟨[.t (.sl true (r.map rI))],[]⟩
def UL : Cx:=⟨1,[0],[.tmp 2]⟩
def Sp (r:List Int):BD:=⟨[.t (.sl true (r.map rI))],[]⟩
def Zg : Cx:=⟨1,[0],[.tmp 2]⟩
def Mi (r:List (List Int)):BD:=⟨[.t (.sl true (r.map (rL true rI)))],[none]⟩
def XM : Cx:=⟨3,[0,0,1],[.tmp 6]⟩
def bD (r:List (List Int)):BD:=⟨[.t (.sl true (r.map (rL true rI)))],[]⟩
def od : Cx:=⟨1,[0],[.tmp 2]⟩
def VQ (r:ByteArray×ByteArray×Bool):BD:=⟨[.t (.v (.string r.1)), .t (.v (.string r.2.1)), .t (.v (.bool r.2.2))],[]⟩
def oe : Cx:=⟨2,[0,0],[.tmp 4, .tmp 5, .tmp 6]⟩
def WA (r:ByteArray×ByteArray×Bool):BD:=⟨[.t (.v (.string r.1)), .t (.v (.string r.2.1)), .t (.v (.bool r.2.2))],[]⟩
def fM : Cx:=⟨1,[0],[.tmp 2, .tmp 3, .tmp 4]⟩
def ST (r:ByteArray):BD:=⟨[.t (.v (.string r))],[]⟩
def XN : Cx:=⟨2,[0,0],[.tmp 4]⟩
def Yh (r:Bool×ByteArray×ByteArray):BD:=⟨[.t (.v (.bool r.1))],[some [[.v (.string r.2.1)]],some [[.v (.string r.2.2)]]]⟩
def lH : Cx:=⟨3,[0,1,1],[.tmp 4]⟩
def F9 (r:Int×ByteArray×ByteArray):BD:=⟨[.t (.v (.int .i64 r.1))],[some [[.v (.string r.2.1)]],some [[.v (.string r.2.2)]]]⟩
def It : Cx:=⟨2,[0,2],[.tmp 4]⟩
def dj (r:CU×Bool):BD:=⟨[.agg [.v (.string r.1.El), .v (.string r.1.At), .v (.bool r.1.Id), .v (.bool r.1.Has), .v (.string r.1.Val)], .t (.v (.bool r.2))],[]⟩
def ta : Cx:=⟨3,[0,0,0],[.cell 6 5 true, .tmp 7]⟩
def Wq (r:List A5):BD:=⟨[.t (.sl true (r.map A5.row))],[]⟩
def dk : Cx:=⟨2,[0,0],[.tmp 4]⟩
def NV (r:Bool):BD:=⟨[.t (.v (.bool r))],[]⟩
def WB : Cx:=⟨2,[0,0],[.tmp 3]⟩
def DL (r:Int):BD:=⟨[.t (.v (.int .i64 r))],[]⟩
def FZ : Cx:=⟨2,[0,0],[.tmp 4]⟩
def Eg (r:Bool):BD:=⟨[.t (.v (.bool r))],[]⟩
def Jl : Cx:=⟨2,[0,0],[.tmp 4]⟩
def Jz (r:List (List Int)):BD:=⟨[.t (.sl false (r.map (rL false rI)))],[]⟩
def Pa : Cx:=⟨2,[0,0],[.tmp 4]⟩
def KF (r:Int):BD:=⟨[.t (.v (.int .i64 r))],[]⟩
def PR : Cx:=⟨1,[0],[.tmp 2]⟩
def XO (r:Int):BD:=⟨[.t (.v (.int .i64 r))],[]⟩
def iU : Cx:=⟨1,[0],[.tmp 2]⟩
def XP (r:Bool):BD:=⟨[.t (.v (.bool r))],[]⟩
def iV : Cx:=⟨1,[0],[.tmp 2]⟩
def Uq (r:Int):BD:=⟨[.t (.v (.int .i64 r))],[]⟩
def dl : Cx:=⟨2,[0,0],[.tmp 4]⟩
def Ks (r:Int):BD:=⟨[.t (.v (.int .i64 r))],[]⟩
def RZ : Cx:=⟨2,[0,0],[.tmp 4]⟩
def Ra (r:Int):BD:=⟨[.t (.v (.int .i64 r))],[]⟩
def Yi : Cx:=⟨2,[0,0],[.tmp 4]⟩
def BG (r:List (List Int)):BD:=⟨[],[some (r.map (rL false rI))]⟩
def By : Cx:=⟨4,[1,0,0,0],[]⟩
def Ce (r:List (List Int)):BD:=⟨[],[some (r.map (rL false rI))]⟩
def EU : Cx:=⟨5,[1,0,0,0,0],[]⟩
def Fw (r:List (List Int)):BD:=⟨[],[some (r.map (rL false rI))]⟩
def Lj : Cx:=⟨2,[1,0],[]⟩
def NB (r:Bool):BD:=⟨[.t (.v (.bool r))],[]⟩
def UM : Cx:=⟨2,[0,0],[.tmp 4]⟩
def XQ (r:Bool):BD:=⟨[.t (.v (.bool r))],[]⟩
def iW : Cx:=⟨2,[0,0],[.tmp 4]⟩
def E1 (r:List (List Int)):BD:=⟨[.t (.sl true (r.map (rL false rI)))],[none]⟩
def Gq : Cx:=⟨2,[1,0],[.tmp 4]⟩
def Rb (r:Bool):BD:=⟨[.t (.v (.bool r))],[]⟩
def Yj : Cx:=⟨4,[0,0,0,0],[.tmp 8]⟩
def Rc (r:Bool):BD:=⟨[.t (.v (.bool r))],[]⟩
def Yk : Cx:=⟨3,[0,0,0],[.tmp 6]⟩
def Ho (r:List Int):BD:=⟨[.t (.sl false (r.map rI))],[]⟩
def Kt : Cx:=⟨3,[0,0,0],[.tmp 6]⟩
def E4 (r:List (List Int)):BD:=⟨[.t (.sl false (r.map (rL false rI)))],[]⟩
def Fa : Cx:=⟨3,[0,0,0],[.tmp 6]⟩
def JW (r:Bool):BD:=⟨[.t (.v (.bool r))],[]⟩
def PS : Cx:=⟨4,[0,0,0,0],[.tmp 8]⟩
def Hp (r:List Am):BD:=⟨[.t (.sl true (r.map (Am.row false)))],[]⟩
def Ku : Cx:=⟨3,[0,0,0],[.tmp 6]⟩
def NW (r:List Am×Bool):BD:=⟨[.t (.sl true (r.1.map (Am.row false))), .t (.v (.bool r.2))],[]⟩
def Rd : Cx:=⟨4,[0,0,0,0],[.tmp 8, .tmp 9]⟩
def WC (r:ByteArray):BD:=⟨[.t (.v (.string r))],[]⟩
def fN : Cx:=⟨1,[0],[.tmp 2]⟩
def XR (r:ByteArray):BD:=⟨[.t (.v (.string r))],[]⟩
def iX : Cx:=⟨1,[0],[.tmp 2]⟩
def UN (r:ByteArray):BD:=⟨[.t (.v (.string r))],[]⟩
def lI : Cx:=⟨1,[0],[.tmp 2]⟩
def XS (r:ByteArray):BD:=⟨[.t (.v (.string r))],[]⟩
def iY : Cx:=⟨1,[0],[.tmp 2]⟩
def Iu (r:ByteArray):BD:=⟨[.t (.v (.string r))],[]⟩
def Kv : Cx:=⟨1,[0],[.tmp 2]⟩
def Yl (r:Bool):BD:=⟨[.t (.v (.bool r))],[]⟩
def lJ : Cx:=⟨1,[0],[.tmp 2]⟩
theorem lT {α:Type} (l:List α):((AD l).toNat<l.length+1)=True:=by simp[AD]
def ES := ai @lT<|ai (@kw.eq_1)<|ai (@yy.eq_1)<|ai (@Wk.eq_1)<|ai (@dN.eq_1)<|ai (@aU.eq_1)<|ai (@oB.eq_1)<|ai (@YM.eq_1)<|ai (@kx.eq_1)<|ai (@aV.eq_1)<|ai (@oC.eq_1)<|ai (@dO.eq_1)<|ai (@tL.eq_1)<|ai (@dP.eq_1)<|ai (@tM.eq_1)<|ai (@aW.eq_1)<|ai (@oD.eq_1)<|ai (@VA.eq_1)<|ai (@aX.eq_1)<|ai (@dQ.eq_1)<|ai (@tN.eq_1)<|ai (@U8.eq_1)<|ai (@YN.eq_1)<|ai (@dR.eq_1)<|ai (@tO.eq_1)<|ai (@aY.eq_1)<|ai (@oE.eq_1)<|ai (@TV.eq_1)<|ai (@dS.eq_1)<|ai (@VB.eq_1)<|ai (@oG.eq_1)<|ai (@TW.eq_1)<|ai (@Wl.eq_1)<|ai (@GF.eq_1)<|ai (@J5.eq_1)<|ai (@PK.eq_1)<|ai (@YO.eq_1)<|ai (@gu.eq_1)<|ai (@wC.eq_1)<|ai (@Jq.eq_1)<|ai (@M7.eq_1)<|ai (@SN.eq_1)<|ai (@XH.eq_1)<|ai (@YP.eq_1)<|ai (@ky.eq_1)<|ai (@aZ.eq_1)<|ai (@oH.eq_1)<|ai (@U9.eq_1)<|ai (@YQ.eq_1)<|ai (@dT.eq_1)<|ai (@tP.eq_1)<|ai (@dU.eq_1)<|ai (@tQ.eq_1)<|ai (@ac.eq_1)<|ai (@oI.eq_1)<|ai (@UA.eq_1)<|ai (@YR.eq_1)<|ai (@ae.eq_1)<|ai (@oJ.eq_1)<|ai (@VC.eq_1)<|ai (@af.eq_1)<|ai (@UB.eq_1)<|ai (@YS.eq_1)<|ai (@ah.eq_1)<|ai (@oK.eq_1)<|ai (@Wm.eq_1)<|ai (@dV.eq_1)<|ai (@dW.eq_1)<|ai (@tR.eq_1)<|ai (@YT.eq_1)<|ai (@kz.eq_1)<|ai (@SP.eq_1)<|ai (@XI.eq_1)<|ai (@TX.eq_1)<|ai (@Wn.eq_1)<|ai (@M8.eq_1)<|ai (@VD.eq_1)<|ai (@R7.eq_1)<|ai (@VE.eq_1)<|ai (@Jr.eq_1)<|ai (@R8.eq_1)<|ai (@aj.eq_1)<|ai (@oN.eq_1)<|ai (@R9.eq_1)<|ai (@VF.eq_1)<|ai (@dX.eq_1)<|ai (@tT.eq_1)<|ai (@PL.eq_1)<|ai (@UC.eq_1)<|ai (@Un.eq_1)<|ai (@dY.eq_1)<|ai (@qV.eq_1)<|ai (@A1g.eq_1)<|ai (@Se.eq_1)<|ai (@Sg.eq_1)<|ai (@Sh.eq_1)<|ai (@Si.eq_1)<|ai (@QD.eq_1)<|ai (@fI.eq_1)<|ai (@KE.eq_1)<|ai (@Uo.eq_1)<|ai (@VG.eq_1)<|ai (@ak.eq_1)<|ai (@VH.eq_1)<|ai (@al.eq_1)<|ai (@XJ.eq_1)<|ai (@iR.eq_1)<|ai (@VI.eq_1)<|ai (@am.eq_1)<|ai (@VJ.eq_1)<|ai (@ao.eq_1)<|ai (@UD.eq_1)<|ai (@YU.eq_1)<|ai (@VK.eq_1)<|ai (@ap.eq_1)<|ai (@UE.eq_1)<|ai (@bZ.eq_1)<|ai (@E9.eq_1)<|ai (@NY.eq_1)<|ai (@aq.eq_1)<|ai (@oO.eq_1)<|ai (@YV.eq_1)<|ai (@l9.eq_1)<|ai (@ER.eq_1)<|ai (@Hi.eq_1)<|ai (@GH.eq_1)<|ai (@M9.eq_1)<|ai (@dZ.eq_1)<|ai (@tU.eq_1)<|ai (@YW.eq_1)<|ai (@lA.eq_1)<|ai (@au.eq_1)<|ai (@oP.eq_1)<|ai (@UF.eq_1)<|ai (@YX.eq_1)<|ai (@av.eq_1)<|ai (@oQ.eq_1)<|ai (@aw.eq_1)<|ai (@oR.eq_1)<|ai (@UG.eq_1)<|ai (@YY.eq_1)<|ai (@ax.eq_1)<|ai (@oS.eq_1)<|ai (@N9.eq_1)<|ai (@ba.eq_1)<|ai (@da.eq_1)<|ai (@tW.eq_1)<|ai (@MA.eq_1)<|ai (@RA.eq_1)<|ai (@XK.eq_1)<|ai (@iS.eq_1)<|ai (@ET.eq_1)<|ai (@Hj.eq_1)<|ai (@GI.eq_1)<|ai (@MB.eq_1)<|ai (@RB.eq_1)<|ai (@VL.eq_1)<|ai (@Wo.eq_1)<|ai (@db.eq_1)<|ai (@YZ.eq_1)<|ai (@lC.eq_1)<|ai (@QE.eq_1)<|ai (@W5.eq_1)<|ai (@SQ.eq_1)<|ai (@XL.eq_1)<|ai (@ay.eq_1)<|ai (@oT.eq_1)<|ai (@QF.eq_1)<|ai (@W6.eq_1)<|ai (@GN.eq_1)<|ai (@Is.eq_1)<|ai (@Wp.eq_1)<|ai (@dc.eq_1)<|ai (@Ya.eq_1)<|ai (@lD.eq_1)<|ai (@Lg.eq_1)<|ai (@Sj.eq_1)<|ai (@W7.eq_1)<|ai (@fJ.eq_1)<|ai (@EA.eq_1)<|ai (@Gy.eq_1)<|ai (@Yb.eq_1)<|ai (@lE.eq_1)<|ai (@PM.eq_1)<|ai (@Yc.eq_1)<|ai (@Hk.eq_1)<|ai (@PN.eq_1)<|ai (@Sk.eq_1)<|ai (@Zc.eq_1)<|ai (@az.eq_1)<|ai (@oU.eq_1)<|ai (@Lh.eq_1)<|ai (@Zd.eq_1)<|ai (@Yd.eq_1)<|ai (@lF.eq_1)<|ai (@b6.eq_1)<|ai (@oV.eq_1)<|ai (@VM.eq_1)<|ai (@b7.eq_1)<|ai (@Hl.eq_1)<|ai (@PO.eq_1)<|ai (@Sl.eq_1)<|ai (@Ze.eq_1)<|ai (@de.eq_1)<|ai (@tX.eq_1)<|ai (@dg.eq_1)<|ai (@tY.eq_1)<|ai (@b8.eq_1)<|ai (@oW.eq_1)<|ai (@UH.eq_1)<|ai (@Ye.eq_1)<|ai (@b9.eq_1)<|ai (@oX.eq_1)<|ai (@PP.eq_1)<|ai (@dh.eq_1)<|ai (@Sm.eq_1)<|ai (@Zf.eq_1)<|ai (@UI.eq_1)<|ai (@Yf.eq_1)<|ai (@PQ.eq_1)<|ai (@Up.eq_1)<|ai (@VN.eq_1)<|ai (@oY.eq_1)<|ai (@Do.eq_1)<|ai (@MC.eq_1)<|ai (@D1.eq_1)<|ai (@Hm.eq_1)<|ai (@SR.eq_1)<|ai (@iT.eq_1)<|ai (@VO.eq_1)<|ai (@oZ.eq_1)<|ai (@VP.eq_1)<|ai (@bA.eq_1)<|ai (@bB.eq_1)<|ai (@oa.eq_1)<|ai (@bC.eq_1)<|ai (@oc.eq_1)<|ai (@Yg.eq_1)<|ai (@lG.eq_1)<|ai (@W8.eq_1)<|ai (@fK.eq_1)<|ai (@UJ.eq_1)<|ai (@bc.eq_1)<|ai (@EB.eq_1)<|ai (@Gz.eq_1)<|ai (@Fv.eq_1)<|ai (@Li.eq_1)<|ai (@W9.eq_1)<|ai (@fL.eq_1)<|ai (@Ek.eq_1)<|ai (@IE.eq_1)<|ai (@Gp.eq_1)<|ai (@NA.eq_1)<|ai (@di.eq_1)<|ai (@tZ.eq_1)<|ai (@UK.eq_1)<|ai (@UL.eq_1)<|ai (@Sp.eq_1)<|ai (@Zg.eq_1)<|ai (@Mi.eq_1)<|ai (@XM.eq_1)<|ai (@bD.eq_1)<|ai (@od.eq_1)<|ai (@VQ.eq_1)<|ai (@oe.eq_1)<|ai (@WA.eq_1)<|ai (@fM.eq_1)<|ai (@ST.eq_1)<|ai (@XN.eq_1)<|ai (@Yh.eq_1)<|ai (@lH.eq_1)<|ai (@F9.eq_1)<|ai (@It.eq_1)<|ai (@dj.eq_1)<|ai (@ta.eq_1)<|ai (@Wq.eq_1)<|ai (@dk.eq_1)<|ai (@NV.eq_1)<|ai (@WB.eq_1)<|ai (@DL.eq_1)<|ai (@FZ.eq_1)<|ai (@Eg.eq_1)<|ai (@Jl.eq_1)<|ai (@Jz.eq_1)<|ai (@Pa.eq_1)<|ai (@KF.eq_1)<|ai (@PR.eq_1)<|ai (@XO.eq_1)<|ai (@iU.eq_1)<|ai (@XP.eq_1)<|ai (@iV.eq_1)<|ai (@Uq.eq_1)<|ai (@dl.eq_1)<|ai (@Ks.eq_1)<|ai (@RZ.eq_1)<|ai (@Ra.eq_1)<|ai (@Yi.eq_1)<|ai (@BG.eq_1)<|ai (@By.eq_1)<|ai (@Ce.eq_1)<|ai (@EU.eq_1)<|ai (@Fw.eq_1)<|ai (@Lj.eq_1)<|ai (@NB.eq_1)<|ai (@UM.eq_1)<|ai (@XQ.eq_1)<|ai (@iW.eq_1)<|ai (@E1.eq_1)<|ai (@Gq.eq_1)<|ai (@Rb.eq_1)<|ai (@Yj.eq_1)<|ai (@Rc.eq_1)<|ai (@Yk.eq_1)<|ai (@Ho.eq_1)<|ai (@Kt.eq_1)<|ai (@E4.eq_1)<|ai (@Fa.eq_1)<|ai (@JW.eq_1)<|ai (@PS.eq_1)<|ai (@Hp.eq_1)<|ai (@Ku.eq_1)<|ai (@NW.eq_1)<|ai (@Rd.eq_1)<|ai (@WC.eq_1)<|ai (@fN.eq_1)<|ai (@XR.eq_1)<|ai (@iX.eq_1)<|ai (@UN.eq_1)<|ai (@lI.eq_1)<|ai (@XS.eq_1)<|ai (@iY.eq_1)<|ai (@Iu.eq_1)<|ai (@Kv.eq_1)<|ai (@Yl.eq_1)<| @lJ.eq_1
theorem xN {f:FuncId} (h:AL.cl.contains f=false) (h2:(AL.lb.all fun p=>p.1 != f)=true) (args:List NH):xOf AL f args=none:=A2t h h2 args
theorem lB {a b:Nat} (h:Nat.ble a b=true):a≤b:=Nat.le_of_ble_eq_true h
theorem gs {p:Prop} (h:p:=by
 try simp only[U2,RS,reduceAdd,reduceSub,reduceMul,reduceLeDiff,reduceLT,reduceEqDiff,Nat.reduceBEq,↓reduceIte,reduceCtorEq]at g0
 try simp only[U2,RS,reduceAdd,reduceSub,reduceMul,reduceLeDiff,reduceLT,reduceEqDiff,Nat.reduceBEq,↓reduceIte,reduceCtorEq]at g1
 try simp only[U2,RS,reduceAdd,reduceSub,reduceMul,reduceLeDiff,reduceLT,reduceEqDiff,Nat.reduceBEq,↓reduceIte,reduceCtorEq]at g2
 try simp only[U2,RS,reduceAdd,reduceSub,reduceMul,reduceLeDiff,reduceLT,reduceEqDiff,Nat.reduceBEq,↓reduceIte,reduceCtorEq]at g3
 try simp only[U2,RS,reduceAdd,reduceSub,reduceMul,reduceLeDiff,reduceLT,reduceEqDiff,Nat.reduceBEq,↓reduceIte,reduceCtorEq]at g4
 try simp only[U2,RS,reduceAdd,reduceSub,reduceMul,reduceLeDiff,reduceLT,reduceEqDiff,Nat.reduceBEq,↓reduceIte,reduceCtorEq]at g5
 try simp only[U2,RS,reduceAdd,reduceSub,reduceMul,reduceLeDiff,reduceLT,reduceEqDiff,Nat.reduceBEq,↓reduceIte,reduceCtorEq]at g6
 try simp only[U2,RS,reduceAdd,reduceSub,reduceMul,reduceLeDiff,reduceLT,reduceEqDiff,Nat.reduceBEq,↓reduceIte,reduceCtorEq]at g7
 try simp only[U2,RS,reduceAdd,reduceSub,reduceMul,reduceLeDiff,reduceLT,reduceEqDiff,Nat.reduceBEq,↓reduceIte,reduceCtorEq]at g8
 try simp only[U2,RS,reduceAdd,reduceSub,reduceMul,reduceLeDiff,reduceLT,reduceEqDiff,Nat.reduceBEq,↓reduceIte,reduceCtorEq]at g9
 try simp only[U2,RS,reduceAdd,reduceSub,reduceMul,reduceLeDiff,reduceLT,reduceEqDiff,Nat.reduceBEq,↓reduceIte,reduceCtorEq]at g10
 try simp only[U2,RS,reduceAdd,reduceSub,reduceMul,reduceLeDiff,reduceLT,reduceEqDiff,Nat.reduceBEq,↓reduceIte,reduceCtorEq]at g11
 simp only[U2,RS,ES, *,reduceAdd,reduceSub,reduceMul,reduceLeDiff,reduceLT,reduceEqDiff,Nat.reduceBEq,↓reduceIte,reduceCtorEq]
 try clear k0
 try clear f0
 repeat' first
  |with_reducible exact A6b
  |((with_reducible refine rZ ?_);first|rfl|simp only[U2,RS,ES])
  |((with_reducible first
   |refine zx (t0 ..) ?_
   |refine zx (t1 ..) ?_);first|rfl|(simp only[U2,RS,ES,reduceAdd,reduceSub,reduceMul,reduceLeDiff,reduceLT,reduceEqDiff,Nat.reduceBEq,↓reduceIte,reduceCtorEq]<;>rfl)|(simp only[U2,RS,ES, *,reduceAdd,reduceSub,reduceMul,reduceLeDiff,reduceLT,reduceEqDiff,Nat.reduceBEq,↓reduceIte,reduceCtorEq]<;>rfl))
  |((first
   |(with_reducible first
    |refine ABl (fun h=> ?_) (fun h=> ?_)
    |refine AB0 fun a h=> ?_
    |refine D6 (g0 ..) fun v=> ?_
    |refine D6 (g1 ..) fun v=> ?_
    |refine D6 (g2 ..) fun v=> ?_
    |refine D6 (g3 ..) fun v=> ?_
    |refine D6 (g4 ..) fun v=> ?_
    |refine D6 (g5 ..) fun v=> ?_
    |refine D6 (g6 ..) fun v=> ?_
    |refine D6 (g7 ..) fun v=> ?_
    |refine D6 (g8 ..) fun v=> ?_
    |refine D6 (g9 ..) fun v=> ?_
    |refine D6 (g10 ..) fun v=> ?_
    |refine D6 (g11 ..) fun v=> ?_
    |refine D6 g0 fun v=> ?_
    |refine D6 g1 fun v=> ?_
    |refine D6 g2 fun v=> ?_
    |refine FF (p:=I1 _ _) fun a h=> ?_
    |refine FF (p:=f9 _) fun a h=> ?_
    |refine FF (p:=room _ _) fun a h=> ?_
    |refine FF (p:=mkN _ _) fun a h=> ?_
    |refine FF (p:=Pk _ _ _) fun a h=> ?_
    |refine FF (p:=slL _ _ _) fun a h=> ?_
    |refine FF (p:=atS _ _) fun a h=> ?_
    |refine FF (p:=A9n _ _) fun a h=> ?_
    |refine FF (p:=xx _ _) fun a h=> ?_
    |refine FF (p:=A9o _ _ _) fun a h=> ?_
    |refine FF (p:=ACW _ _ _) fun a h=> ?_
    |refine FF (p:=A9p _ _ _) fun a h=> ?_
    |refine FF (p:=nu _ _ _) fun a h=> ?_
    |refine A81 fun h=> ?_
    |refine FF (p:=AAY _) fun a h=> ?_
    |refine FF (p:=vwB _ _ _) fun a h=> ?_
    |refine FF (p:=vF _ _ _) fun a h=> ?_)
   |refine D6 (g0 ..) fun v=> ?_
   |refine D6 (g1 ..) fun v=> ?_
   |refine D6 (g2 ..) fun v=> ?_
   |refine D6 (g3 ..) fun v=> ?_
   |refine D6 (g4 ..) fun v=> ?_
   |refine D6 (g5 ..) fun v=> ?_
   |refine D6 (g6 ..) fun v=> ?_
   |refine D6 (g7 ..) fun v=> ?_
   |refine D6 (g8 ..) fun v=> ?_
   |refine D6 (g9 ..) fun v=> ?_
   |refine D6 (g10 ..) fun v=> ?_
   |refine D6 (g11 ..) fun v=> ?_
   |refine Cu (g0 _) (by simp only[U2,RS,List.map_cons,List.map_nil]) fun v=> ?_
   |refine Cu (g0 _ _) (by simp only[U2,RS,List.map_cons,List.map_nil]) fun v=> ?_
   |refine Cu (g1 _) (by simp only[U2,RS,List.map_cons,List.map_nil]) fun v=> ?_
   |refine Cu (g1 _ _) (by simp only[U2,RS,List.map_cons,List.map_nil]) fun v=> ?_
   |refine Cu (g2 _) (by simp only[U2,RS,List.map_cons,List.map_nil]) fun v=> ?_
   |refine Cu (g2 _ _) (by simp only[U2,RS,List.map_cons,List.map_nil]) fun v=> ?_
   |refine Cu (g3 _) (by simp only[U2,RS,List.map_cons,List.map_nil]) fun v=> ?_
   |refine Cu (g3 _ _) (by simp only[U2,RS,List.map_cons,List.map_nil]) fun v=> ?_
   |refine Cu (g4 _) (by simp only[U2,RS,List.map_cons,List.map_nil]) fun v=> ?_
   |refine Cu (g4 _ _) (by simp only[U2,RS,List.map_cons,List.map_nil]) fun v=> ?_
   |refine Cu (g5 _) (by simp only[U2,RS,List.map_cons,List.map_nil]) fun v=> ?_
   |refine Cu (g5 _ _) (by simp only[U2,RS,List.map_cons,List.map_nil]) fun v=> ?_
   |refine Cu (g6 _) (by simp only[U2,RS,List.map_cons,List.map_nil]) fun v=> ?_
   |refine Cu (g6 _ _) (by simp only[U2,RS,List.map_cons,List.map_nil]) fun v=> ?_
   |refine Cu (g7 _) (by simp only[U2,RS,List.map_cons,List.map_nil]) fun v=> ?_
   |refine Cu (g7 _ _) (by simp only[U2,RS,List.map_cons,List.map_nil]) fun v=> ?_
   |refine Cu (g8 _) (by simp only[U2,RS,List.map_cons,List.map_nil]) fun v=> ?_
   |refine Cu (g8 _ _) (by simp only[U2,RS,List.map_cons,List.map_nil]) fun v=> ?_
   |refine Cu (g9 _) (by simp only[U2,RS,List.map_cons,List.map_nil]) fun v=> ?_
   |refine Cu (g9 _ _) (by simp only[U2,RS,List.map_cons,List.map_nil]) fun v=> ?_
   |refine Cu (g10 _) (by simp only[U2,RS,List.map_cons,List.map_nil]) fun v=> ?_
   |refine Cu (g10 _ _) (by simp only[U2,RS,List.map_cons,List.map_nil]) fun v=> ?_
   |refine Cu (g11 _) (by simp only[U2,RS,List.map_cons,List.map_nil]) fun v=> ?_
   |refine Cu (g11 _ _) (by simp only[U2,RS,List.map_cons,List.map_nil]) fun v=> ?_)<;>simp only[U2,RS,ES, *,reduceAdd,reduceSub,reduceMul,reduceLeDiff,reduceLT,reduceEqDiff,Nat.reduceBEq,↓reduceIte,reduceCtorEq])):p:=h
theorem wD : ∀ (code:List Int),Ok (dM code) kw (dn AL kv [.t (.sl false (code.map (rK .u8)))]):=by
 intro code
 rw[AB AL (fn:=Wi) rfl (xN rfl rfl _) (lB rfl)]
 have k0:= @Wi.eq_1;have f0:= @dM.eq_1
 exact gs
theorem fO (code:List Int):∀(h:Int) (i:Int),Ok (I5 code h i) Wk (ev AL dN (.loop Rw) [.lv 0, .th Rx] (BO (List.replicate 32 .dead) [(0, .t (.sl false (code.map (rK .u8)))),(3, .t (.v (.int .i64 h))),(4, .t (.v (.int .i64 i)))]) (BP (List.replicate 32 []) [])):=by
 unfold Ok
 refine I5.partial_correctness code _ ?_
 intro F ih h i
 show Ok _ _ _
 have ih:∀(h:Int) (i:Int),Ok (F h i) _ _:=ih
 rw[AZ]
 have k0:= @Rw.eq_1;have k1:= @Rx.eq_1;have t0:=ih
 exact gs
theorem bE : ∀ (code:List Int),Ok (QA code) Wk (dn AL Wd [.t (.sl false (code.map (rK .u8)))]):=by
 intro code
 rw[AB AL (fn:=T5) rfl (xN rfl rfl _) (lB rfl)]
 have k0:= @T5.eq_1;have f0:= @QA.eq_1;have t0:=fO
 exact gs
theorem lK : ∀ (c:A7),Ok (J1 c) aU (dn AL Lv [.lp [.sl false (c.xb.map (rK .u8)), .v (.int .i64 c.xi), .v (.int .i64 c.xh)] 0]):=by
 intro c
 rw[AB AL (fn:=Qb) rfl (xN rfl rfl _) (lB rfl)]
 have k0:= @Qb.eq_1;have f0:= @J1.eq_1
 exact gs
theorem DQ : ∀ (c:A7) (n:Int),Ok (Cz c n) YM (dn AL DE [.lp [.sl false (c.xb.map (rK .u8)), .v (.int .i64 c.xi), .v (.int .i64 c.xh)] 0, .t (.v (.int .i64 n))]):=by
 intro c n
 rw[AB AL (fn:=OF) rfl (xN rfl rfl _) (lB rfl)]
 have k0:= @OF.eq_1;have f0:= @Cz.eq_1;have g0:=lK
 exact gs
theorem Gr : ∀ (c:A7) (n:Int),Ok (FR c n) aV (dn AL G7 [.lp [.sl false (c.xb.map (rK .u8)), .v (.int .i64 c.xi), .v (.int .i64 c.xh)] 0, .t (.v (.int .i64 n))]):=by
 intro c n
 rw[AB AL (fn:=QY) rfl (xN rfl rfl _) (lB rfl)]
 have k0:= @QY.eq_1;have f0:= @FR.eq_1;have g0:=DQ
 exact gs
theorem GJ : ∀ (c:A7) (list:List ByteArray),Ok (Dy c list) dO (dn AL Dq [.lp [.sl false (c.xb.map (rK .u8)), .v (.int .i64 c.xi), .v (.int .i64 c.xh)] 0, .t (.sl false (list.map rS))]):=by
 intro c list
 rw[AB AL (fn:=T6) rfl (xN rfl rfl _) (lB rfl)]
 have k0:= @T6.eq_1;have f0:= @Dy.eq_1;have g0:=DQ
 exact gs
theorem og : ∀ (c:A7),Ok (U3 c) dP (dn AL dI [.lp [.sl false (c.xb.map (rK .u8)), .v (.int .i64 c.xi), .v (.int .i64 c.xh)] 0]):=by
 intro c
 rw[AB AL (fn:=TL) rfl (xN rfl rfl _) (lB rfl)]
 have k0:= @TL.eq_1;have f0:= @U3.eq_1;have g0:=GJ
 exact gs
theorem lL : ∀ (c:A7),Ok (RT c) aW (dn AL aR [.lp [.sl false (c.xb.map (rK .u8)), .v (.int .i64 c.xi), .v (.int .i64 c.xh)] 0]):=by
 intro c
 rw[AB AL (fn:=Qp) rfl (xN rfl rfl _) (lB rfl)]
 have k0:= @Qp.eq_1;have f0:= @RT.eq_1;have g0:=GJ;have g1:=og;have g2:=Gr
 exact gs
theorem dm : ∀ (l:List (A2)) (i:Int) (c1:A7),Ok (DJ l i c1) VA (ev AL aX (.loop Pz) [.lv 0, .th Q0] (BO (List.replicate 35 .dead) [(0, .ptr (0,0) [] 0 0 1 0),(3, .ref (6,0) l.length),(4, .t (.v (.int .i64 i)))]) (BP (List.replicate 35 []) [(0,[.mem [[.sl false (c1.xb.map (rK .u8)), .v (.int .i64 c1.xi), .v (.int .i64 c1.xh)]] 0 true]),(6,[.mem (l.map A2.row) 0 false])])):=by
 unfold Ok
 refine DJ.partial_correctness _ ?_
 intro F ih l i c1
 show Ok _ _ _
 have ih:∀(l:List (A2)) (i:Int) (c1:A7),Ok (F l i c1) _ _:=ih
 rw[AZ]
 have k0:= @Pz.eq_1;have k1:= @Q0.eq_1;have g0:=lL;have t0:=ih
 exact gs
theorem lM : ∀ (c:A7),Ok (RU c) VA (dn AL aS [.lp [.sl false (c.xb.map (rK .u8)), .v (.int .i64 c.xi), .v (.int .i64 c.xh)] 0]):=by
 intro c
 rw[AB AL (fn:=Qg) rfl (xN rfl rfl _) (lB rfl)]
 have k0:= @Qg.eq_1;have f0:= @RU.eq_1;have g0:=DQ;have t0:=dm
 exact gs
theorem bF : ∀ (l:List A2) (more:List A2),Ok (Fn l more) dQ (dn AL Wc [.t (.sl false (l.map A2.row)), .t (.sl false (more.map A2.row))]):=by
 intro l more
 rw[AB AL (fn:=TD) rfl (xN rfl rfl _) (lB rfl)]
 have k0:= @TD.eq_1;have f0:= @Fn.eq_1
 exact gs
theorem bd (l:List A2) (pre:ByteArray):∀(i:Int),Ok (CB l pre i) U8 (ev AL YN (.loop OK) [.lv 0, .th OL] (BO (List.replicate 28 .dead) [(0, .t (.sl false (l.map A2.row))),(1, .t (.v (.string pre))),(6, .t (.v (.int .i64 i)))]) (BP (List.replicate 28 []) [])):=by
 unfold Ok
 refine CB.partial_correctness l pre _ ?_
 intro F ih i
 show Ok _ _ _
 have ih:∀(i:Int),Ok (F i) _ _:=ih
 rw[AZ]
 have k0:= @OK.eq_1;have k1:= @OL.eq_1;have t0:=ih
 exact gs
theorem Mj : ∀ (l:List A2) (pre:ByteArray),Ok (C9 l pre) U8 (dn AL Ia [.t (.sl false (l.map A2.row)), .t (.v (.string pre))]):=by
 intro l pre
 rw[AB AL (fn:=OM) rfl (xN rfl rfl _) (lB rfl)]
 have k0:= @OM.eq_1;have f0:= @C9.eq_1;have t0:=bd
 exact gs
theorem oh : ∀ (c:A7),Ok (U4 c) dR (dn AL dK [.lp [.sl false (c.xb.map (rK .u8)), .v (.int .i64 c.xi), .v (.int .i64 c.xh)] 0]):=by
 intro c
 rw[AB AL (fn:=TF) rfl (xN rfl rfl _) (lB rfl)]
 have k0:= @TF.eq_1;have f0:= @U4.eq_1;have g0:=GJ
 exact gs
theorem Ym : ∀ (a:A5) (b:A5),Ok (J2 a b) aY (dn AL V8 [.agg ((A5.row a).map .t), .agg ((A5.row b).map .t)]):=by
 intro a b
 rw[AB AL (fn:=Qh) rfl (xN rfl rfl _) (lB rfl)]
 have k0:= @Qh.eq_1;have f0:= @J2.eq_1
 exact gs
theorem dq : (∀ (l:List A0),Ok (U5 l) TV (dn AL Wf [.t (.sl false (l.map (A0.row false)))]))∧
  (∀(l:List A0) (out:List (A0)) (i:Int),Ok (Lz l out i) TV (ev AL dS (.loop SH) [.lv 0, .th SI] (BO (List.replicate 23 .dead) [(0, .t (.sl false (l.map (A0.row false)))),(3, .ref (6,0) out.length),(4, .t (.v (.int .i64 i)))]) (BP (List.replicate 23 []) [(6,[.mem (out.map (A0.row true)) 0 false])])))∧
  (∀(n:A0),Ok (HS n) VB (dn AL Lw [.agg (((A0.row false) n).map .t)])):=by
 unfold Ok
 refine U5.mutual_partial_correctness _ _ _ ?_ ?_ ?_
 ·intro F1 ih1 l
  show Ok _ _ _
  have ih1:∀(l:List A0) (out:List (A0)) (i:Int),Ok (F1 l out i) _ _:=ih1
  rw[AB AL (fn:=TG) rfl (xN rfl rfl _) (lB rfl)]
  have k0:= @TG.eq_1;have t0:=ih1
  exact gs
 ·intro F1 F2 ih1 ih2 l out i
  show Ok _ _ _
  have ih2:∀(n:A0),Ok (F2 n) _ _:=ih2
  have ih1:∀(l:List A0) (out:List (A0)) (i:Int),Ok (F1 l out i) _ _:=ih1
  rw[AZ]
  have k0:= @SH.eq_1;have k1:= @SI.eq_1;have g0:=ih2;have t0:=ih1
  exact gs
 ·intro F0 ih0 n
  show Ok _ _ _
  have ih0:∀(l:List A0),Ok (F0 l) _ _:=ih0
  rw[AB AL (fn:=Qa) rfl (xN rfl rfl _) (lB rfl)]
  have k0:= @Qa.eq_1;have g0:=ih0
  exact gs
theorem A5w (l:List A0):Ok (U5 l) TV (dn AL Wf [.t (.sl false (l.map (A0.row false)))]):=dq.1 l
theorem UO (n:A0):Ok (HS n) VB (dn AL Lw [.agg (((A0.row false) n).map .t)]):=dq.2.2 n
theorem fP (l:List A0):(∀(out:List (A0)) (i:Int) (x8:Bool) (x6:A0),Ok (Gd l out i x8 x6) TW (ev AL Wl Q1 [.th LC, .lv 1, .th LD, .hk [.clean [5,6,54,57]], .th (.loop MV), .lv 0, .th MW] (BO (List.replicate 60 .dead) [(0, .t (.sl false (l.map (A0.row false)))),(3, .ref (7,0) out.length),(4, .t (.v (.int .i64 i))),(5, .ptr (5,0) [] 0 0 1 0),(36, .t (.v (.bool x8)))]) (BP (List.replicate 60 []) [(5,[.mem [[.v (.int .i64 x6.Kind), .v (.string x6.Pre), .v (.string x6.Local), .v (.string x6.Uri), .sl false (x6.Decls.map A2.row), .sl false (x6.Attrs.map A5.row), .sl false (x6.Kids.map (A0.row false)), .v (.string x6.Text)]] 0 false]),(7,[.mem (out.map (A0.row true)) 0 false])])))∧
  (∀(out:List (A0)) (i:Int),Ok (DM l out i) TW (ev AL Wl (.loop MV) [.lv 0, .th MW] (BO (List.replicate 60 .dead) [(0, .t (.sl false (l.map (A0.row false)))),(3, .ref (7,0) out.length),(4, .t (.v (.int .i64 i)))]) (BP (List.replicate 60 []) [(7,[.mem (out.map (A0.row true)) 0 false])]))):=by
 unfold Ok
 refine Gd.mutual_partial_correctness l _ _ ?_ ?_
 ·intro F1 ih1 out i x8 x6
  show Ok _ _ _
  have ih1:∀(out:List (A0)) (i:Int),Ok (F1 out i) _ _:=ih1
  have k0:= @Q1.eq_1;have k1:= @LD.eq_1;have k2:= @LC.eq_1;have g0:=UO;have t0:=ih1
  exact gs
 ·intro F0 F1 ih0 ih1 out i
  show Ok _ _ _
  have ih1:∀(out:List (A0)) (i:Int),Ok (F1 out i) _ _:=ih1
  have ih0:∀(out:List (A0)) (i:Int) (x8:Bool) (x6:A0),Ok (F0 out i x8 x6) _ _:=ih0
  rw[AZ]
  have k0:= @MV.eq_1;have k1:= @LD.eq_1;have k2:= @LC.eq_1;have k3:= @MW.eq_1;have g0:=UO;have t0:=ih1;have t1:=ih0
  exact gs
theorem ol : ∀ (l:List A0),Ok (N2 l) TW (dn AL dF [.t (.sl false (l.map (A0.row false)))]):=by
 intro l
 rw[AB AL (fn:=TE) rfl (xN rfl rfl _) (lB rfl)]
 have k0:= @TE.eq_1;have f0:= @N2.eq_1;have t0:=fun a0=>(fP a0).2
 exact gs
theorem wE : (∀ (c:A7) (in1:List A2) (most:Int),Ok (Ij c in1 most) GF (dn AL Ug [.lp [.sl false (c.xb.map (rK .u8)), .v (.int .i64 c.xi), .v (.int .i64 c.xh)] 0, .t (.sl false (in1.map A2.row)), .lp [.v (.int .i64 most)] 0]))∧
  (∀(in1:List A2) (c1:A7) (most:Int) (r:ByteArray×A7) (nDecls:List (A2)),Ok (PE in1 c1 most r nDecls) GF (ev AL J5 U1 [] (BO (List.replicate 175 .dead) [(0, .ptr (0,0) [] 0 0 1 0),(1, .t (.sl false (in1.map A2.row))),(2, .ptr (2,0) [] 0 0 1 0),(6, .ptr (6,0) [] 0 0 1 0),(7, .ptr (7,0) [] 0 0 1 0)]) (BP (List.replicate 175 []) [(0,[.mem [[.sl false (c1.xb.map (rK .u8)), .v (.int .i64 c1.xi), .v (.int .i64 c1.xh)]] 0 true]),(2,[.mem [[.v (.int .i64 most)]] 0 true]),(6,[.mem [[.v (.int .i64 0), .v (.string (⟨#[]⟩)), .v (.string (⟨#[]⟩)), .v (.string (⟨#[]⟩)), .sl true [], .sl true [], .sl true [], .v (.string (⟨#[]⟩))]] 0 false]),(7,[.mem [[.v (.int .i64 1), .v (.string (⟨#[]⟩)), .v (.string r.1), .v (.string (⟨#[]⟩)), .sl true (nDecls.map A2.row), .sl true [], .sl true [], .v (.string (⟨#[]⟩))]] 0 false])])))∧
  (∀(r3:List A2) (c2:A7) (most:Int) (nPre:ByteArray) (r:ByteArray×A7) (nDecls:List (A2)),Ok (M0 r3 c2 most nPre r nDecls) GF (ev AL J5 SD [] (BO (List.replicate 175 .dead) [(0, .ptr (0,0) [] 0 0 1 0),(2, .ptr (2,0) [] 0 0 1 0),(6, .ptr (6,0) [] 0 0 1 0),(7, .ptr (7,0) [] 0 0 1 0),(8, .t (.sl false (r3.map A2.row)))]) (BP (List.replicate 175 []) [(0,[.mem [[.sl false (c2.xb.map (rK .u8)), .v (.int .i64 c2.xi), .v (.int .i64 c2.xh)]] 0 true]),(2,[.mem [[.v (.int .i64 most)]] 0 true]),(6,[.mem [[.v (.int .i64 0), .v (.string (⟨#[]⟩)), .v (.string (⟨#[]⟩)), .v (.string (⟨#[]⟩)), .sl true [], .sl true [], .sl true [], .v (.string (⟨#[]⟩))]] 0 false]),(7,[.mem [[.v (.int .i64 1), .v (.string nPre), .v (.string r.1), .v (.string (⟨#[]⟩)), .sl true (nDecls.map A2.row), .sl true [], .sl true [], .v (.string (⟨#[]⟩))]] 0 false])])))∧
  (∀(r3:List A2) (u:ByteArray) (c2:A7) (most:Int) (nPre1:ByteArray) (r:ByteArray×A7) (nDecls:List (A2)),Ok (M1 r3 u c2 most nPre1 r nDecls) GF (ev AL J5 SC [] (BO (List.replicate 175 .dead) [(0, .ptr (0,0) [] 0 0 1 0),(2, .ptr (2,0) [] 0 0 1 0),(6, .ptr (6,0) [] 0 0 1 0),(7, .ptr (7,0) [] 0 0 1 0),(8, .t (.sl false (r3.map A2.row))),(9, .t (.v (.string u)))]) (BP (List.replicate 175 []) [(0,[.mem [[.sl false (c2.xb.map (rK .u8)), .v (.int .i64 c2.xi), .v (.int .i64 c2.xh)]] 0 true]),(2,[.mem [[.v (.int .i64 most)]] 0 true]),(6,[.mem [[.v (.int .i64 0), .v (.string (⟨#[]⟩)), .v (.string (⟨#[]⟩)), .v (.string (⟨#[]⟩)), .sl true [], .sl true [], .sl true [], .v (.string (⟨#[]⟩))]] 0 false]),(7,[.mem [[.v (.int .i64 1), .v (.string nPre1), .v (.string r.1), .v (.string (⟨#[]⟩)), .sl true (nDecls.map A2.row), .sl true [], .sl true [], .v (.string (⟨#[]⟩))]] 0 false])])))∧
  (∀(r3:List A2) (i1:Int) (c4:A7) (most:Int) (nPre1:ByteArray) (r:ByteArray×A7) (u:ByteArray) (nDecls:List (A2)) (nAttrs:List (A5)),Ok (G8 r3 i1 c4 most nPre1 r u nDecls nAttrs) GF (ev AL J5 (.loop MQ) [.lv 0, .th MT] (BO (List.replicate 175 .dead) [(0, .ptr (0,0) [] 0 0 1 0),(2, .ptr (2,0) [] 0 0 1 0),(6, .ptr (6,0) [] 0 0 1 0),(7, .ptr (7,0) [] 0 0 1 0),(8, .t (.sl false (r3.map A2.row))),(11, .t (.v (.int .i64 i1)))]) (BP (List.replicate 175 []) [(0,[.mem [[.sl false (c4.xb.map (rK .u8)), .v (.int .i64 c4.xi), .v (.int .i64 c4.xh)]] 0 true]),(2,[.mem [[.v (.int .i64 most)]] 0 true]),(6,[.mem [[.v (.int .i64 0), .v (.string (⟨#[]⟩)), .v (.string (⟨#[]⟩)), .v (.string (⟨#[]⟩)), .sl true [], .sl true [], .sl true [], .v (.string (⟨#[]⟩))]] 0 false]),(7,[.mem [[.v (.int .i64 1), .v (.string nPre1), .v (.string r.1), .v (.string u), .sl true (nDecls.map A2.row), .sl true (nAttrs.map A5.row), .sl true [], .v (.string (⟨#[]⟩))]] 0 false])])))∧
  (∀(r3:List A2) (i2:Int) (c5:A7) (most2:Int) (nPre1:ByteArray) (r:ByteArray×A7) (u:ByteArray) (nDecls:List (A2)) (nAttrs:List (A5)) (nKids1:List (A0)),Ok (ED r3 i2 c5 most2 nPre1 r u nDecls nAttrs nKids1) GF (ev AL J5 (.loop MR) [.lv 2, .th MS] (BO (List.replicate 175 .dead) [(0, .ptr (0,0) [] 0 0 1 0),(2, .ptr (2,0) [] 0 0 1 0),(6, .ptr (6,0) [] 0 0 1 0),(7, .ptr (7,0) [] 0 0 1 0),(8, .t (.sl false (r3.map A2.row))),(16, .t (.v (.int .i64 i2)))]) (BP (List.replicate 175 []) [(0,[.mem [[.sl false (c5.xb.map (rK .u8)), .v (.int .i64 c5.xi), .v (.int .i64 c5.xh)]] 0 true]),(2,[.mem [[.v (.int .i64 most2)]] 0 true]),(6,[.mem [[.v (.int .i64 0), .v (.string (⟨#[]⟩)), .v (.string (⟨#[]⟩)), .v (.string (⟨#[]⟩)), .sl true [], .sl true [], .sl true [], .v (.string (⟨#[]⟩))]] 0 false]),(7,[.mem [[.v (.int .i64 1), .v (.string nPre1), .v (.string r.1), .v (.string u), .sl true (nDecls.map A2.row), .sl true (nAttrs.map A5.row), .sl true (nKids1.map (A0.row true)), .v (.string (⟨#[]⟩))]] 0 false])])))∧
  (∀(r3:List A2) (i2:Int) (r42:Int×A7) (x5:Bool) (most2:Int) (nPre1:ByteArray) (r:ByteArray×A7) (u:ByteArray) (nDecls:List (A2)) (nAttrs:List (A5)) (nKids1:List (A0)),Ok (M2 r3 i2 r42 x5 most2 nPre1 r u nDecls nAttrs nKids1) GF (ev AL J5 SA [.lv 4, .lv 3, .th SB, .hk [.clean [17,129,133,134,142,145,146,153,156,157,164,167,168]], .th (.loop MR), .lv 2, .th MS] (BO (List.replicate 175 .dead) [(0, .ptr (0,0) [] 0 0 1 0),(2, .ptr (2,0) [] 0 0 1 0),(6, .ptr (6,0) [] 0 0 1 0),(7, .ptr (7,0) [] 0 0 1 0),(8, .t (.sl false (r3.map A2.row))),(16, .t (.v (.int .i64 i2))),(125, .t (.v (.int .i64 r42.1))),(136, .t (.v (.bool x5)))]) (BP (List.replicate 175 []) [(0,[.mem [[.sl false (r42.2.xb.map (rK .u8)), .v (.int .i64 r42.2.xi), .v (.int .i64 r42.2.xh)]] 0 true]),(2,[.mem [[.v (.int .i64 (Cq most2 1))]] 0 true]),(6,[.mem [[.v (.int .i64 0), .v (.string (⟨#[]⟩)), .v (.string (⟨#[]⟩)), .v (.string (⟨#[]⟩)), .sl true [], .sl true [], .sl true [], .v (.string (⟨#[]⟩))]] 0 false]),(7,[.mem [[.v (.int .i64 1), .v (.string nPre1), .v (.string r.1), .v (.string u), .sl true (nDecls.map A2.row), .sl true (nAttrs.map A5.row), .sl true (nKids1.map (A0.row true)), .v (.string (⟨#[]⟩))]] 0 false])])))∧
  (∀(r3:List A2) (i1:Int) (r31:ByteArray×A7) (most:Int) (nPre1:ByteArray) (r:ByteArray×A7) (u:ByteArray) (nDecls:List (A2)) (nAttrs:List (A5)) (a1:A5),Ok (Jm r3 i1 r31 most nPre1 r u nDecls nAttrs a1) GF (ev AL J5 S8 [.lv 1, .th S9, .hk [.clean [12,61,67,103,104]], .th (.loop MQ), .lv 0, .th MT] (BO (List.replicate 175 .dead) [(0, .ptr (0,0) [] 0 0 1 0),(2, .ptr (2,0) [] 0 0 1 0),(6, .ptr (6,0) [] 0 0 1 0),(7, .ptr (7,0) [] 0 0 1 0),(8, .t (.sl false (r3.map A2.row))),(11, .t (.v (.int .i64 i1))),(12, .ptr (12,0) [] 0 0 1 0)]) (BP (List.replicate 175 []) [(0,[.mem [[.sl false (r31.2.xb.map (rK .u8)), .v (.int .i64 r31.2.xi), .v (.int .i64 r31.2.xh)]] 0 true]),(2,[.mem [[.v (.int .i64 most)]] 0 true]),(6,[.mem [[.v (.int .i64 0), .v (.string (⟨#[]⟩)), .v (.string (⟨#[]⟩)), .v (.string (⟨#[]⟩)), .sl true [], .sl true [], .sl true [], .v (.string (⟨#[]⟩))]] 0 false]),(7,[.mem [[.v (.int .i64 1), .v (.string nPre1), .v (.string r.1), .v (.string u), .sl true (nDecls.map A2.row), .sl true (nAttrs.map A5.row), .sl true [], .v (.string (⟨#[]⟩))]] 0 false]),(12,[.mem [[.v (.string a1.Pre), .v (.string a1.Local), .v (.string a1.Uri), .v (.string a1.Val)]] 0 false])]))):=by
 unfold Ok
 refine Ij.mutual_partial_correctness _ _ _ _ _ _ _ _ ?_ ?_ ?_ ?_ ?_ ?_ ?_ ?_
 ·intro F1 ih1 c in1 most
  show Ok _ _ _
  have ih1:∀(in1:List A2) (c1:A7) (most:Int) (r:ByteArray×A7) (nDecls:List (A2)),Ok (F1 in1 c1 most r nDecls) _ _:=ih1
  rw[AB AL (fn:=Uj) rfl (xN rfl rfl _) (lB rfl)]
  have k0:= @Uj.eq_1;have g0:=GJ;have g1:=Gr;have g2:=lM;have t0:=ih1
  exact gs
 ·intro F2 ih2 in1 c1 most r nDecls
  show Ok _ _ _
  have ih2:∀(r3:List A2) (c2:A7) (most:Int) (nPre:ByteArray) (r:ByteArray×A7) (nDecls:List (A2)),Ok (F2 r3 c2 most nPre r nDecls) _ _:=ih2
  have k0:= @U1.eq_1;have g0:=bF;have g1:=Gr;have g2:=GJ;have t0:=ih2
  exact gs
 ·intro F3 ih3 r3 c2 most nPre r nDecls
  show Ok _ _ _
  have ih3:∀(r3:List A2) (u:ByteArray) (c2:A7) (most:Int) (nPre1:ByteArray) (r:ByteArray×A7) (nDecls:List (A2)),Ok (F3 r3 u c2 most nPre1 r nDecls) _ _:=ih3
  have k0:= @SD.eq_1;have g0:=Mj;have t0:=ih3
  exact gs
 ·intro F4 ih4 r3 u c2 most nPre1 r nDecls
  show Ok _ _ _
  have ih4:∀(r3:List A2) (i1:Int) (c4:A7) (most:Int) (nPre1:ByteArray) (r:ByteArray×A7) (u:ByteArray) (nDecls:List (A2)) (nAttrs:List (A5)),Ok (F4 r3 i1 c4 most nPre1 r u nDecls nAttrs) _ _:=ih4
  have k0:= @SC.eq_1;have g0:=DQ;have t0:=ih4
  exact gs
 ·intro F5 F7 ih5 ih7 r3 i1 c4 most nPre1 r u nDecls nAttrs
  show Ok _ _ _
  have ih7:∀(r3:List A2) (i1:Int) (r31:ByteArray×A7) (most:Int) (nPre1:ByteArray) (r:ByteArray×A7) (u:ByteArray) (nDecls:List (A2)) (nAttrs:List (A5)) (a1:A5),Ok (F7 r3 i1 r31 most nPre1 r u nDecls nAttrs a1) _ _:=ih7
  have ih5:∀(r3:List A2) (i2:Int) (c5:A7) (most2:Int) (nPre1:ByteArray) (r:ByteArray×A7) (u:ByteArray) (nDecls:List (A2)) (nAttrs:List (A5)) (nKids1:List (A0)),Ok (F5 r3 i2 c5 most2 nPre1 r u nDecls nAttrs nKids1) _ _:=ih5
  rw[AZ]
  have k0:= @MQ.eq_1;have k1:= @MT.eq_1;have g0:=GJ;have g1:=oh;have g2:=Mj;have g3:=DQ;have t0:=ih7;have t1:=ih5
  exact gs
 ·intro F6 ih6 r3 i2 c5 most2 nPre1 r u nDecls nAttrs nKids1
  show Ok _ _ _
  have ih6:∀(r3:List A2) (i2:Int) (r42:Int×A7) (x5:Bool) (most2:Int) (nPre1:ByteArray) (r:ByteArray×A7) (u:ByteArray) (nDecls:List (A2)) (nAttrs:List (A5)) (nKids1:List (A0)),Ok (F6 r3 i2 r42 x5 most2 nPre1 r u nDecls nAttrs nKids1) _ _:=ih6
  rw[AZ]
  have k0:= @MR.eq_1;have k1:= @MS.eq_1;have g0:=DQ;have g1:=ol;have t0:=ih6
  exact gs
 ·intro F0 F5 ih0 ih5 r3 i2 r42 x5 most2 nPre1 r u nDecls nAttrs nKids1
  show Ok _ _ _
  have ih0:∀(c:A7) (in1:List A2) (most:Int),Ok (F0 c in1 most) _ _:=ih0
  have ih5:∀(r3:List A2) (i2:Int) (c5:A7) (most2:Int) (nPre1:ByteArray) (r:ByteArray×A7) (u:ByteArray) (nDecls:List (A2)) (nAttrs:List (A5)) (nKids1:List (A0)),Ok (F5 r3 i2 c5 most2 nPre1 r u nDecls nAttrs nKids1) _ _:=ih5
  have k0:= @SA.eq_1;have k1:= @SB.eq_1;have g0:=GJ;have g1:=ih0;have t0:=ih5
  exact gs
 ·intro F4 ih4 r3 i1 r31 most nPre1 r u nDecls nAttrs a1
  show Ok _ _ _
  have ih4:∀(r3:List A2) (i1:Int) (c4:A7) (most:Int) (nPre1:ByteArray) (r:ByteArray×A7) (u:ByteArray) (nDecls:List (A2)) (nAttrs:List (A5)),Ok (F4 r3 i1 c4 most nPre1 r u nDecls nAttrs) _ _:=ih4
  have k0:= @S8.eq_1;have k1:= @S9.eq_1;have g0:=Ym;have t0:=ih4
  exact gs
theorem tb (c:A7) (in1:List A2) (most:Int):Ok (Ij c in1 most) GF (dn AL Ug [.lp [.sl false (c.xb.map (rK .u8)), .v (.int .i64 c.xi), .v (.int .i64 c.xh)] 0, .t (.sl false (in1.map A2.row)), .lp [.v (.int .i64 most)] 0]):=wE.1 c in1 most
theorem lN : (∀ (n:A0),Ok (CX n) PK (dn AL Nx [.agg (((A0.row false) n).map .t)]))∧
  (∀(k:Int) (i:Int) (n:A0),Ok (BM k i n) PK (ev AL YO (.loop Oa) [.lv 0, .th Ob] (BO (List.replicate 25 .dead) [(1, .ptr (1,0) [] 0 0 1 0),(3, .t (.v (.int .i64 k))),(4, .t (.v (.int .i64 i)))]) (BP (List.replicate 25 []) [(1,[.mem [[.v (.int .i64 n.Kind), .v (.string n.Pre), .v (.string n.Local), .v (.string n.Uri), .sl false (n.Decls.map A2.row), .sl false (n.Attrs.map A5.row), .sl false (n.Kids.map (A0.row false)), .v (.string n.Text)]] 0 false])]))):=by
 unfold Ok
 refine CX.mutual_partial_correctness _ _ ?_ ?_
 ·intro F1 ih1 n
  show Ok _ _ _
  have ih1:∀(k:Int) (i:Int) (n:A0),Ok (F1 k i n) _ _:=ih1
  rw[AB AL (fn:=Oc) rfl (xN rfl rfl _) (lB rfl)]
  have k0:= @Oc.eq_1;have t0:=ih1
  exact gs
 ·intro F0 F1 ih0 ih1 k i n
  show Ok _ _ _
  have ih0:∀(n:A0),Ok (F0 n) _ _:=ih0
  have ih1:∀(k:Int) (i:Int) (n:A0),Ok (F1 k i n) _ _:=ih1
  rw[AZ]
  have k0:= @Oa.eq_1;have k1:= @Ob.eq_1;have g0:=ih0;have t0:=ih1
  exact gs
theorem iZ (n:A0):Ok (CX n) PK (dn AL Nx [.agg (((A0.row false) n).map .t)]):=lN.1 n
end TT
