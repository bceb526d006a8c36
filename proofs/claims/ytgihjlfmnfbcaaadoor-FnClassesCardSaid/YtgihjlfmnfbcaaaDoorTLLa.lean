import Derived.Test.YtgihjlfmnfbcaaaDoorTKK
import Derived.Test.YtgihjlfmnfbcaaaDoorTDefs
set_option maxHeartbeats 2000000
set_option linter.unusedVariables false
set_option linter.unusedSimpArgs false
set_option linter.defProp false
set_option maxRecDepth 100000
namespace TT
open Go
open Nat (reduceAdd reduceSub reduceMul reduceLeDiff reduceLT reduceEqDiff)
def Ke (r : Bool) : BU := ⟨[.t (.v (.bool r))], []⟩
def Qc : Cx := ⟨1, [0], [.tmp 2]⟩
def GK (r : A8) : BU := ⟨[.box [.sl false (r.xb.map (rK .u8)), .v (.int .i64 r.xi), .v (.int .i64 r.xh)]], []⟩
def If : Cx := ⟨1, [0], [.tmp 2]⟩
def Hb (r : Int × A8) : BU := ⟨[.t (.v (.int .i64 r.1))], [some [[.sl false (r.2.xb.map (rK .u8)), .v (.int .i64 r.2.xi), .v (.int .i64 r.2.xh)]]]⟩
def LY : Cx := ⟨1, [1], [.tmp 2]⟩
def Gx (r : Int × A8) : BU := ⟨[.t (.v (.int .i64 r.1))], [some [[.sl false (r.2.xb.map (rK .u8)), .v (.int .i64 r.2.xi), .v (.int .i64 r.2.xh)]]]⟩
def Kf : Cx := ⟨2, [1, 0], [.tmp 4]⟩
def Hc (r : Bool × A8) : BU := ⟨[.t (.v (.bool r.1))], [some [[.sl false (r.2.xb.map (rK .u8)), .v (.int .i64 r.2.xi), .v (.int .i64 r.2.xh)]]]⟩
def LZ : Cx := ⟨2, [1, 0], [.tmp 4]⟩
def Ig (r : Int × A8) : BU := ⟨[.t (.v (.int .i64 r.1))], [some [[.sl false (r.2.xb.map (rK .u8)), .v (.int .i64 r.2.xi), .v (.int .i64 r.2.xh)]]]⟩
def NO : Cx := ⟨2, [1, 0], [.tmp 4]⟩
def Ih (r : Int × A8) : BU := ⟨[.t (.v (.int .i64 r.1))], [some [[.sl false (r.2.xb.map (rK .u8)), .v (.int .i64 r.2.xi), .v (.int .i64 r.2.xh)]]]⟩
def NP : Cx := ⟨1, [1], [.tmp 2]⟩
def Fg (r : Int) : BU := ⟨[.t (.v (.int .i64 r))], []⟩
def Ii : Cx := ⟨1, [0], [.tmp 2]⟩
def FR (r : Int) : BU := ⟨[.t (.v (.int .i64 r))], []⟩
def Hx : Cx := ⟨1, [0], [.tmp 2]⟩
def Fh (r : Int) : BU := ⟨[.t (.v (.int .i64 r))], []⟩
def Ij : Cx := ⟨1, [0], [.tmp 2]⟩
def Ik (r : ByteArray × A8) : BU := ⟨[.t (.v (.string r.1))], [some [[.sl false (r.2.xb.map (rK .u8)), .v (.int .i64 r.2.xi), .v (.int .i64 r.2.xh)]]]⟩
def NQ : Cx := ⟨2, [1, 0], [.tmp 4]⟩
def EY (r : ByteArray × A8) : BU := ⟨[.t (.v (.string r.1))], [some [[.sl false (r.2.xb.map (rK .u8)), .v (.int .i64 r.2.xi), .v (.int .i64 r.2.xh)]]]⟩
def Fl : Cx := ⟨1, [1], [.tmp 2]⟩
def Hd (r : ByteArray × A8) : BU := ⟨[.t (.v (.string r.1))], [some [[.sl false (r.2.xb.map (rK .u8)), .v (.int .i64 r.2.xi), .v (.int .i64 r.2.xh)]]]⟩
def La : Cx := ⟨2, [1, 0], [.tmp 4]⟩
def Fi (r : ByteArray) : BU := ⟨[.t (.v (.string r))], []⟩
def Il : Cx := ⟨1, [0], [.tmp 2]⟩
def Ez (r : ByteArray) : BU := ⟨[.t (.v (.string r))], []⟩
def HN : Cx := ⟨1, [0], [.tmp 2]⟩
def MR (r : Bool) : BU := ⟨[.t (.v (.bool r))], []⟩
def SL : Cx := ⟨3, [0, 0, 0], [.tmp 6]⟩
def Gy (r : Bool × Int) : BU := ⟨[.t (.v (.bool r.1))], [some [[.v (.int .i64 r.2)]]]⟩
def Kg : Cx := ⟨2, [0, 1], [.tmp 3]⟩
def B8 (r : Int × Int) : BU := ⟨[.t (.v (.int .i64 r.1))], [some [[.v (.int .i64 r.2)]]]⟩
def C6 : Cx := ⟨2, [0, 1], [.tmp 4]⟩
def Bm (r : Bool × Int) : BU := ⟨[.t (.v (.bool r.1))], [some [[.v (.int .i64 r.2)]]]⟩
def DC : Cx := ⟨2, [0, 1], [.tmp 4]⟩
def Im (r : Bool) : BU := ⟨[.t (.v (.bool r))], []⟩
def NR : Cx := ⟨2, [0, 0], [.tmp 4]⟩
def Gz (r : Bool) : BU := ⟨[.t (.v (.bool r))], []⟩
def Kh : Cx := ⟨1, [0], [.tmp 2]⟩
def He (r : Bool) : BU := ⟨[.t (.v (.bool r))], []⟩
def Lb : Cx := ⟨1, [0], [.tmp 2]⟩
def Jc (r : Bool) : BU := ⟨[.t (.v (.bool r))], []⟩
def Oo : Cx := ⟨3, [0, 0, 0], [.tmp 6]⟩
def Eu (r : Bool) : BU := ⟨[.t (.v (.bool r))], []⟩
def GU : Cx := ⟨2, [0, 0], [.tmp 4]⟩
def H0 (r : Bool) : BU := ⟨[.t (.v (.bool r))], []⟩
def Ki : Cx := ⟨1, [0], [.tmp 2]⟩
def Hf (r : Bool) : BU := ⟨[.t (.v (.bool r))], []⟩
def Lc : Cx := ⟨1, [0], [.tmp 2]⟩
def Hg (r : Bool) : BU := ⟨[.t (.v (.bool r))], []⟩
def Ld : Cx := ⟨1, [0], [.tmp 2]⟩
def Hh (r : Bool) : BU := ⟨[.t (.v (.bool r))], []⟩
def Lf : Cx := ⟨1, [0], [.tmp 2]⟩
def H1 (r : Bool) : BU := ⟨[.t (.v (.bool r))], []⟩
def Kj : Cx := ⟨1, [0], [.tmp 2]⟩
def Ay (r : Int × Int) : BU := ⟨[.t (.v (.int .i32 r.1)), .t (.v (.int .i64 r.2))], []⟩
def DX : Cx := ⟨1, [0], [.tmp 2, .tmp 3]⟩
def Hi (r : Int × Int × Bool) : BU := ⟨[.t (.v (.int .i64 r.1)), .t (.v (.int .i64 r.2.1)), .t (.v (.bool r.2.2))], []⟩
def Lg : Cx := ⟨2, [0, 0], [.tmp 4, .tmp 5, .tmp 6]⟩
def FS (r : Bool) : BU := ⟨[.t (.v (.bool r))], []⟩
def H3 : Cx := ⟨1, [0], [.tmp 2]⟩
def Hj (r : Bool) : BU := ⟨[.t (.v (.bool r))], []⟩
def Lh : Cx := ⟨1, [0], [.tmp 2]⟩
def Cd (r : Int × Int × Bool) : BU := ⟨[.t (.v (.int .i64 r.1)), .t (.v (.int .i64 r.2.1)), .t (.v (.bool r.2.2))], []⟩
def DD : Cx := ⟨2, [0, 0], [.tmp 4, .tmp 5, .tmp 6]⟩
def FU (r : Bool) : BU := ⟨[.t (.v (.bool r))], []⟩
def H4 : Cx := ⟨1, [0], [.tmp 2]⟩
def Hk (r : Bool) : BU := ⟨[.t (.v (.bool r))], []⟩
def Li : Cx := ⟨1, [0], [.tmp 2]⟩
def Fm (r : Int) : BU := ⟨[.t (.v (.int .i64 r))], []⟩
def Hl : Cx := ⟨2, [0, 0], [.tmp 4]⟩
def GV (r : Bool) : BU := ⟨[.t (.v (.bool r))], []⟩
def Jm : Cx := ⟨1, [0], [.tmp 2]⟩
def H5 (r : Bool) : BU := ⟨[.t (.v (.bool r))], []⟩
def Kk : Cx := ⟨1, [0], [.tmp 2]⟩
def Ev (r : Bool) : BU := ⟨[.t (.v (.bool r))], []⟩
def GW : Cx := ⟨1, [0], [.tmp 2]⟩
def MS (r : Int) : BU := ⟨[.t (.v (.int .i64 r))], []⟩
def SM : Cx := ⟨2, [0, 0], [.tmp 4]⟩
def G1 (r : Bool) : BU := ⟨[.t (.v (.bool r))], []⟩
def J5 : Cx := ⟨1, [0], [.tmp 2]⟩
theorem lT {α : Type} (l : List α) : ((Be l).toNat < l.length + 1) = True := by simp [Be]
def ES := And.intro @lT <| And.intro (@Ke.eq_1) <| And.intro (@Qc.eq_1) <| And.intro (@GK.eq_1) <| And.intro (@If.eq_1) <| And.intro (@Hb.eq_1) <| And.intro (@LY.eq_1) <| And.intro (@Gx.eq_1) <| And.intro (@Kf.eq_1) <| And.intro (@Hc.eq_1) <| And.intro (@LZ.eq_1) <| And.intro (@Ig.eq_1) <| And.intro (@NO.eq_1) <| And.intro (@Ih.eq_1) <| And.intro (@NP.eq_1) <| And.intro (@Fg.eq_1) <| And.intro (@Ii.eq_1) <| And.intro (@FR.eq_1) <| And.intro (@Hx.eq_1) <| And.intro (@Fh.eq_1) <| And.intro (@Ij.eq_1) <| And.intro (@Ik.eq_1) <| And.intro (@NQ.eq_1) <| And.intro (@EY.eq_1) <| And.intro (@Fl.eq_1) <| And.intro (@Hd.eq_1) <| And.intro (@La.eq_1) <| And.intro (@Fi.eq_1) <| And.intro (@Il.eq_1) <| And.intro (@Ez.eq_1) <| And.intro (@HN.eq_1) <| And.intro (@MR.eq_1) <| And.intro (@SL.eq_1) <| And.intro (@Gy.eq_1) <| And.intro (@Kg.eq_1) <| And.intro (@B8.eq_1) <| And.intro (@C6.eq_1) <| And.intro (@Bm.eq_1) <| And.intro (@DC.eq_1) <| And.intro (@Im.eq_1) <| And.intro (@NR.eq_1) <| And.intro (@Gz.eq_1) <| And.intro (@Kh.eq_1) <| And.intro (@He.eq_1) <| And.intro (@Lb.eq_1) <| And.intro (@Jc.eq_1) <| And.intro (@Oo.eq_1) <| And.intro (@Eu.eq_1) <| And.intro (@GU.eq_1) <| And.intro (@H0.eq_1) <| And.intro (@Ki.eq_1) <| And.intro (@Hf.eq_1) <| And.intro (@Lc.eq_1) <| And.intro (@Hg.eq_1) <| And.intro (@Ld.eq_1) <| And.intro (@Hh.eq_1) <| And.intro (@Lf.eq_1) <| And.intro (@H1.eq_1) <| And.intro (@Kj.eq_1) <| And.intro (@Ay.eq_1) <| And.intro (@DX.eq_1) <| And.intro (@Hi.eq_1) <| And.intro (@Lg.eq_1) <| And.intro (@FS.eq_1) <| And.intro (@H3.eq_1) <| And.intro (@Hj.eq_1) <| And.intro (@Lh.eq_1) <| And.intro (@Cd.eq_1) <| And.intro (@DD.eq_1) <| And.intro (@FU.eq_1) <| And.intro (@H4.eq_1) <| And.intro (@Hk.eq_1) <| And.intro (@Li.eq_1) <| And.intro (@Fm.eq_1) <| And.intro (@Hl.eq_1) <| And.intro (@GV.eq_1) <| And.intro (@Jm.eq_1) <| And.intro (@H5.eq_1) <| And.intro (@Kk.eq_1) <| And.intro (@Ev.eq_1) <| And.intro (@GW.eq_1) <| And.intro (@MS.eq_1) <| And.intro (@SM.eq_1) <| And.intro (@G1.eq_1) <| @J5.eq_1
theorem xN {f : FuncId} (h : BV.cl.contains f = false) (h2 : (BV.lb.all fun p => p.1 != f) = true) (args : List E4) : Pd BV f args = none := TI h h2 args
theorem lB {a b : Nat} (h : Nat.ble a b = true) : a ≤ b := Nat.le_of_ble_eq_true h
theorem gs {p : Prop} (h : p := by
 try simp only [DV, RS, reduceAdd, reduceSub, reduceMul, reduceLeDiff, reduceLT, reduceEqDiff, Nat.reduceBEq, ↓reduceIte, reduceCtorEq] at g0
 try simp only [DV, RS, reduceAdd, reduceSub, reduceMul, reduceLeDiff, reduceLT, reduceEqDiff, Nat.reduceBEq, ↓reduceIte, reduceCtorEq] at g1
 try simp only [DV, RS, reduceAdd, reduceSub, reduceMul, reduceLeDiff, reduceLT, reduceEqDiff, Nat.reduceBEq, ↓reduceIte, reduceCtorEq] at g2
 try simp only [DV, RS, reduceAdd, reduceSub, reduceMul, reduceLeDiff, reduceLT, reduceEqDiff, Nat.reduceBEq, ↓reduceIte, reduceCtorEq] at g3
 try simp only [DV, RS, reduceAdd, reduceSub, reduceMul, reduceLeDiff, reduceLT, reduceEqDiff, Nat.reduceBEq, ↓reduceIte, reduceCtorEq] at g4
 try simp only [DV, RS, reduceAdd, reduceSub, reduceMul, reduceLeDiff, reduceLT, reduceEqDiff, Nat.reduceBEq, ↓reduceIte, reduceCtorEq] at g5
 try simp only [DV, RS, reduceAdd, reduceSub, reduceMul, reduceLeDiff, reduceLT, reduceEqDiff, Nat.reduceBEq, ↓reduceIte, reduceCtorEq] at g6
 try simp only [DV, RS, reduceAdd, reduceSub, reduceMul, reduceLeDiff, reduceLT, reduceEqDiff, Nat.reduceBEq, ↓reduceIte, reduceCtorEq] at g7
 try simp only [DV, RS, reduceAdd, reduceSub, reduceMul, reduceLeDiff, reduceLT, reduceEqDiff, Nat.reduceBEq, ↓reduceIte, reduceCtorEq] at g8
 try simp only [DV, RS, reduceAdd, reduceSub, reduceMul, reduceLeDiff, reduceLT, reduceEqDiff, Nat.reduceBEq, ↓reduceIte, reduceCtorEq] at g9
 try simp only [DV, RS, reduceAdd, reduceSub, reduceMul, reduceLeDiff, reduceLT, reduceEqDiff, Nat.reduceBEq, ↓reduceIte, reduceCtorEq] at g10
 try simp only [DV, RS, reduceAdd, reduceSub, reduceMul, reduceLeDiff, reduceLT, reduceEqDiff, Nat.reduceBEq, ↓reduceIte, reduceCtorEq] at g11
 try simp only [DV, RS, reduceAdd, reduceSub, reduceMul, reduceLeDiff, reduceLT, reduceEqDiff, Nat.reduceBEq, ↓reduceIte, reduceCtorEq] at g12
 try simp only [DV, RS, reduceAdd, reduceSub, reduceMul, reduceLeDiff, reduceLT, reduceEqDiff, Nat.reduceBEq, ↓reduceIte, reduceCtorEq] at g13
 try simp only [DV, RS, reduceAdd, reduceSub, reduceMul, reduceLeDiff, reduceLT, reduceEqDiff, Nat.reduceBEq, ↓reduceIte, reduceCtorEq] at g14
 try simp only [DV, RS, reduceAdd, reduceSub, reduceMul, reduceLeDiff, reduceLT, reduceEqDiff, Nat.reduceBEq, ↓reduceIte, reduceCtorEq] at g15
 try simp only [DV, RS, reduceAdd, reduceSub, reduceMul, reduceLeDiff, reduceLT, reduceEqDiff, Nat.reduceBEq, ↓reduceIte, reduceCtorEq] at g16
 try simp only [DV, RS, reduceAdd, reduceSub, reduceMul, reduceLeDiff, reduceLT, reduceEqDiff, Nat.reduceBEq, ↓reduceIte, reduceCtorEq] at g17
 try simp only [DV, RS, reduceAdd, reduceSub, reduceMul, reduceLeDiff, reduceLT, reduceEqDiff, Nat.reduceBEq, ↓reduceIte, reduceCtorEq] at g18
 simp only [DV, RS, ES, *, reduceAdd, reduceSub, reduceMul, reduceLeDiff, reduceLT, reduceEqDiff, Nat.reduceBEq, ↓reduceIte, reduceCtorEq]
 try clear k0
 try clear f0
 repeat' first
  | with_reducible exact Vx
  | ((with_reducible refine YX ?_); first | rfl | simp only [DV, RS, ES])
  | ((with_reducible first
   | refine R5 (t0 ..) ?_
   | refine R5 (t1 ..) ?_); first | rfl | (simp only [DV, RS, ES, reduceAdd, reduceSub, reduceMul, reduceLeDiff, reduceLT, reduceEqDiff, Nat.reduceBEq, ↓reduceIte, reduceCtorEq] <;> rfl) | (simp only [DV, RS, ES, *, reduceAdd, reduceSub, reduceMul, reduceLeDiff, reduceLT, reduceEqDiff, Nat.reduceBEq, ↓reduceIte, reduceCtorEq] <;> rfl))
  | ((first
   | (with_reducible first
    | refine aO (fun h => ?_) (fun h => ?_)
    | refine Zj fun a h => ?_
    | refine AI (g0 ..) fun v => ?_
    | refine AI (g1 ..) fun v => ?_
    | refine AI (g2 ..) fun v => ?_
    | refine AI (g3 ..) fun v => ?_
    | refine AI (g4 ..) fun v => ?_
    | refine AI (g5 ..) fun v => ?_
    | refine AI (g6 ..) fun v => ?_
    | refine AI (g7 ..) fun v => ?_
    | refine AI (g8 ..) fun v => ?_
    | refine AI (g9 ..) fun v => ?_
    | refine AI (g10 ..) fun v => ?_
    | refine AI (g11 ..) fun v => ?_
    | refine AI (g12 ..) fun v => ?_
    | refine AI (g13 ..) fun v => ?_
    | refine AI (g14 ..) fun v => ?_
    | refine AI (g15 ..) fun v => ?_
    | refine AI (g16 ..) fun v => ?_
    | refine AI (g17 ..) fun v => ?_
    | refine AI (g18 ..) fun v => ?_
    | refine AI g0 fun v => ?_
    | refine AI g1 fun v => ?_
    | refine AI g2 fun v => ?_
    | refine Bt (p := Pj _ _) fun a h => ?_
    | refine Bt (p := Gq _) fun a h => ?_
    | refine Bt (p := room _ _) fun a h => ?_
    | refine Bt (p := mkN _ _) fun a h => ?_
    | refine Bt (p := Re _ _ _) fun a h => ?_
    | refine Bt (p := slL _ _ _) fun a h => ?_
    | refine Bt (p := atS _ _) fun a h => ?_
    | refine Bt (p := YW _ _) fun a h => ?_
    | refine Bt (p := E5 _ _) fun a h => ?_
    | refine Bt (p := YY _ _ _) fun a h => ?_
    | refine Bt (p := az _ _ _) fun a h => ?_
    | refine Bt (p := YZ _ _ _) fun a h => ?_
    | refine Bt (p := Pk _ _ _) fun a h => ?_
    | refine XL fun h => ?_
    | refine Bt (p := Ps _) fun a h => ?_
    | refine Bt (p := vwB _ _ _) fun a h => ?_
    | refine Bt (p := Kb _ _ _) fun a h => ?_)
   | refine AI (g0 ..) fun v => ?_
   | refine AI (g1 ..) fun v => ?_
   | refine AI (g2 ..) fun v => ?_
   | refine AI (g3 ..) fun v => ?_
   | refine AI (g4 ..) fun v => ?_
   | refine AI (g5 ..) fun v => ?_
   | refine AI (g6 ..) fun v => ?_
   | refine AI (g7 ..) fun v => ?_
   | refine AI (g8 ..) fun v => ?_
   | refine AI (g9 ..) fun v => ?_
   | refine AI (g10 ..) fun v => ?_
   | refine AI (g11 ..) fun v => ?_
   | refine AI (g12 ..) fun v => ?_
   | refine AI (g13 ..) fun v => ?_
   | refine AI (g14 ..) fun v => ?_
   | refine AI (g15 ..) fun v => ?_
   | refine AI (g16 ..) fun v => ?_
   | refine AI (g17 ..) fun v => ?_
   | refine AI (g18 ..) fun v => ?_
   | refine AF (g0 _) (by simp only [DV, RS, List.map_cons, List.map_nil]) fun v => ?_
   | refine AF (g0 _ _) (by simp only [DV, RS, List.map_cons, List.map_nil]) fun v => ?_
   | refine AF (g1 _) (by simp only [DV, RS, List.map_cons, List.map_nil]) fun v => ?_
   | refine AF (g1 _ _) (by simp only [DV, RS, List.map_cons, List.map_nil]) fun v => ?_
   | refine AF (g2 _) (by simp only [DV, RS, List.map_cons, List.map_nil]) fun v => ?_
   | refine AF (g2 _ _) (by simp only [DV, RS, List.map_cons, List.map_nil]) fun v => ?_
   | refine AF (g3 _) (by simp only [DV, RS, List.map_cons, List.map_nil]) fun v => ?_
   | refine AF (g3 _ _) (by simp only [DV, RS, List.map_cons, List.map_nil]) fun v => ?_
   | refine AF (g4 _) (by simp only [DV, RS, List.map_cons, List.map_nil]) fun v => ?_
   | refine AF (g4 _ _) (by simp only [DV, RS, List.map_cons, List.map_nil]) fun v => ?_
   | refine AF (g5 _) (by simp only [DV, RS, List.map_cons, List.map_nil]) fun v => ?_
   | refine AF (g5 _ _) (by simp only [DV, RS, List.map_cons, List.map_nil]) fun v => ?_
   | refine AF (g6 _) (by simp only [DV, RS, List.map_cons, List.map_nil]) fun v => ?_
   | refine AF (g6 _ _) (by simp only [DV, RS, List.map_cons, List.map_nil]) fun v => ?_
   | refine AF (g7 _) (by simp only [DV, RS, List.map_cons, List.map_nil]) fun v => ?_
   | refine AF (g7 _ _) (by simp only [DV, RS, List.map_cons, List.map_nil]) fun v => ?_
   | refine AF (g8 _) (by simp only [DV, RS, List.map_cons, List.map_nil]) fun v => ?_
   | refine AF (g8 _ _) (by simp only [DV, RS, List.map_cons, List.map_nil]) fun v => ?_
   | refine AF (g9 _) (by simp only [DV, RS, List.map_cons, List.map_nil]) fun v => ?_
   | refine AF (g9 _ _) (by simp only [DV, RS, List.map_cons, List.map_nil]) fun v => ?_
   | refine AF (g10 _) (by simp only [DV, RS, List.map_cons, List.map_nil]) fun v => ?_
   | refine AF (g10 _ _) (by simp only [DV, RS, List.map_cons, List.map_nil]) fun v => ?_
   | refine AF (g11 _) (by simp only [DV, RS, List.map_cons, List.map_nil]) fun v => ?_
   | refine AF (g11 _ _) (by simp only [DV, RS, List.map_cons, List.map_nil]) fun v => ?_
   | refine AF (g12 _) (by simp only [DV, RS, List.map_cons, List.map_nil]) fun v => ?_
   | refine AF (g12 _ _) (by simp only [DV, RS, List.map_cons, List.map_nil]) fun v => ?_
   | refine AF (g13 _) (by simp only [DV, RS, List.map_cons, List.map_nil]) fun v => ?_
   | refine AF (g13 _ _) (by simp only [DV, RS, List.map_cons, List.map_nil]) fun v => ?_
   | refine AF (g14 _) (by simp only [DV, RS, List.map_cons, List.map_nil]) fun v => ?_
   | refine AF (g14 _ _) (by simp only [DV, RS, List.map_cons, List.map_nil]) fun v => ?_
   | refine AF (g15 _) (by simp only [DV, RS, List.map_cons, List.map_nil]) fun v => ?_
   | refine AF (g15 _ _) (by simp only [DV, RS, List.map_cons, List.map_nil]) fun v => ?_
   | refine AF (g16 _) (by simp only [DV, RS, List.map_cons, List.map_nil]) fun v => ?_
   | refine AF (g16 _ _) (by simp only [DV, RS, List.map_cons, List.map_nil]) fun v => ?_
   | refine AF (g17 _) (by simp only [DV, RS, List.map_cons, List.map_nil]) fun v => ?_
   | refine AF (g17 _ _) (by simp only [DV, RS, List.map_cons, List.map_nil]) fun v => ?_
   | refine AF (g18 _) (by simp only [DV, RS, List.map_cons, List.map_nil]) fun v => ?_
   | refine AF (g18 _ _) (by simp only [DV, RS, List.map_cons, List.map_nil]) fun v => ?_) <;> simp only [DV, RS, ES, *, reduceAdd, reduceSub, reduceMul, reduceLeDiff, reduceLT, reduceEqDiff, Nat.reduceBEq, ↓reduceIte, reduceCtorEq])) : p := h
theorem Oq : ∀ (code : List Int), Ok (Ie code) Ke (dn BV Kd [.t (.sl false (code.map (rK .u8)))]) := by
 intro code
 rw [AU BV (fn := GJ) rfl (xN rfl rfl _) (lB rfl)]
 have k0 := @GJ.eq_1; have f0 := @Ie.eq_1
 exact gs
theorem J6 (code : List Int) : ∀ (h : Int) (i : Int), Ok (CB code h i) GK (ev BV If (.loop Es) [.lv 0, .th Et] (Gs (List.replicate 32 .dead) [(0, .t (.sl false (code.map (rK .u8)))), (3, .t (.v (.int .i64 h))), (4, .t (.v (.int .i64 i)))]) (Gu (List.replicate 32 []) [])) := by
 unfold Ok
 refine CB.partial_correctness code _ ?_
 intro F ih h i
 show Ok _ _ _
 have ih : ∀ (h : Int) (i : Int), Ok (F h i) _ _ := ih
 rw [EH]
 have k0 := @Es.eq_1; have k1 := @Et.eq_1; have t0 := ih
 exact gs
theorem DE : ∀ (code : List Int), Ok (CT code) GK (dn BV D0 [.t (.sl false (code.map (rK .u8)))]) := by
 intro code
 rw [AU BV (fn := F7) rfl (xN rfl rfl _) (lB rfl)]
 have k0 := @F7.eq_1; have f0 := @CT.eq_1; have t0 := J6
 exact gs
theorem Kl : ∀ (c : A8), Ok (CO c) Hb (dn BV DB [.lp [.sl false (c.xb.map (rK .u8)), .v (.int .i64 c.xi), .v (.int .i64 c.xh)] 0]) := by
 intro c
 rw [AU BV (fn := EV) rfl (xN rfl rfl _) (lB rfl)]
 have k0 := @EV.eq_1; have f0 := @CO.eq_1
 exact gs
theorem Bc : ∀ (c : A8) (n : Int), Ok (AT c n) Gx (dn BV AZ [.lp [.sl false (c.xb.map (rK .u8)), .v (.int .i64 c.xi), .v (.int .i64 c.xh)] 0, .t (.v (.int .i64 n))]) := by
 intro c n
 rw [AU BV (fn := Dl) rfl (xN rfl rfl _) (lB rfl)]
 have k0 := @Dl.eq_1; have f0 := @AT.eq_1; have g0 := Kl
 exact gs
theorem FV : ∀ (c : A8) (n : Int), Ok (Cs c n) Hc (dn BV EJ [.lp [.sl false (c.xb.map (rK .u8)), .v (.int .i64 c.xi), .v (.int .i64 c.xh)] 0, .t (.v (.int .i64 n))]) := by
 intro c n
 rw [AU BV (fn := EQ) rfl (xN rfl rfl _) (lB rfl)]
 have k0 := @EQ.eq_1; have f0 := @Cs.eq_1; have g0 := Bc
 exact gs
theorem Hm : ∀ (c : A8) (list : List Int), Ok (EE c list) Ig (dn BV GI [.lp [.sl false (c.xb.map (rK .u8)), .v (.int .i64 c.xi), .v (.int .i64 c.xh)] 0, .t (.sl false (list.map rI))]) := by
 intro c list
 rw [AU BV (fn := FB) rfl (xN rfl rfl _) (lB rfl)]
 have k0 := @FB.eq_1; have f0 := @EE.eq_1; have g0 := Bc
 exact gs
theorem Fn : ∀ (c : A8), Ok (Ct c) Ih (dn BV F5 [.lp [.sl false (c.xb.map (rK .u8)), .v (.int .i64 c.xi), .v (.int .i64 c.xh)] 0]) := by
 intro c
 rw [AU BV (fn := F8) rfl (xN rfl rfl _) (lB rfl)]
 have k0 := @F8.eq_1; have f0 := @Ct.eq_1; have g0 := Hm
 exact gs
theorem Hy : ∀ (code : List Int), Ok (CY code) Fg (dn BV Fa [.t (.sl false (code.map (rK .u8)))]) := by
 intro code
 rw [AU BV (fn := Ch) rfl (xN rfl rfl _) (lB rfl)]
 have k0 := @Ch.eq_1; have f0 := @CY.eq_1; have g0 := DE; have g1 := FV; have g2 := Fn; have g3 := Bc
 exact gs
theorem HO : ∀ (code : List Int), Ok (CM code) FR (dn BV FO [.t (.sl false (code.map (rK .u8)))]) := by
 intro code
 rw [AU BV (fn := CS) rfl (xN rfl rfl _) (lB rfl)]
 have k0 := @CS.eq_1; have f0 := @CM.eq_1; have g0 := DE; have g1 := FV; have g2 := Fn; have g3 := Bc
 exact gs
theorem Hz : ∀ (code : List Int), Ok (CZ code) Fh (dn BV Fb [.t (.sl false (code.map (rK .u8)))]) := by
 intro code
 rw [AU BV (fn := Ci) rfl (xN rfl rfl _) (lB rfl)]
 have k0 := @Ci.eq_1; have f0 := @CZ.eq_1; have g0 := DE; have g1 := Fn
 exact gs
theorem Fo : ∀ (c : A8) (list : List ByteArray), Ok (DM c list) Ik (dn BV F6 [.lp [.sl false (c.xb.map (rK .u8)), .v (.int .i64 c.xi), .v (.int .i64 c.xh)] 0, .t (.sl false (list.map rS))]) := by
 intro c list
 rw [AU BV (fn := F9) rfl (xN rfl rfl _) (lB rfl)]
 have k0 := @F9.eq_1; have f0 := @DM.eq_1; have g0 := Bc
 exact gs
theorem I1 : ∀ (s2 : ByteArray) (c3 : A8), Ok (Ba s2 c3) EY (ev BV Fl (.loop Dm) [.lv 2, .th Ck] (Gs (List.replicate 27 .dead) [(0, .ptr (0, 0) [] 0 0 1 0), (3, .t (.v (.string s2)))]) (Gu (List.replicate 27 []) [(0, [.mem [[.sl false (c3.xb.map (rK .u8)), .v (.int .i64 c3.xi), .v (.int .i64 c3.xh)]] 0 true])])) := by
 unfold Ok
 refine Ba.partial_correctness _ ?_
 intro F ih s2 c3
 show Ok _ _ _
 have ih : ∀ (s2 : ByteArray) (c3 : A8), Ok (F s2 c3) _ _ := ih
 rw [EH]
 have k0 := @Dm.eq_1; have k1 := @Ck.eq_1; have g0 := Hm; have t0 := ih
 exact gs
theorem In : ∀ (s1 : ByteArray) (i : Int) (c2 : A8), Ok (Bs s1 i c2) EY (ev BV Fl (.loop EC) [.lv 0, .th ED] (Gs (List.replicate 27 .dead) [(0, .ptr (0, 0) [] 0 0 1 0), (3, .t (.v (.string s1))), (4, .t (.v (.int .i64 i)))]) (Gu (List.replicate 27 []) [(0, [.mem [[.sl false (c2.xb.map (rK .u8)), .v (.int .i64 c2.xi), .v (.int .i64 c2.xh)]] 0 true])])) := by
 unfold Ok
 refine Bs.partial_correctness _ ?_
 intro F ih s1 i c2
 show Ok _ _ _
 have ih : ∀ (s1 : ByteArray) (i : Int) (c2 : A8), Ok (F s1 i c2) _ _ := ih
 rw [EH]
 have k0 := @EC.eq_1; have k1 := @Ck.eq_1; have k2 := @ED.eq_1; have g0 := Fo; have g1 := FV; have t0 := ih; have t1 := I1
 exact gs
theorem Km : ∀ (c : A8), Ok (Eh c) EY (dn BV Ha [.lp [.sl false (c.xb.map (rK .u8)), .v (.int .i64 c.xi), .v (.int .i64 c.xh)] 0]) := by
 intro c
 rw [AU BV (fn := ER) rfl (xN rfl rfl _) (lB rfl)]
 have k0 := @ER.eq_1; have f0 := @Eh.eq_1; have g0 := Bc; have t0 := In
 exact gs
theorem Kn : ∀ (c : A8) (s : ByteArray), Ok (Ei c s) Hd (dn BV HZ [.lp [.sl false (c.xb.map (rK .u8)), .v (.int .i64 c.xi), .v (.int .i64 c.xh)] 0, .t (.v (.string s))]) := by
 intro c s
 rw [AU BV (fn := ET) rfl (xN rfl rfl _) (lB rfl)]
 have k0 := @ET.eq_1; have f0 := @Ei.eq_1; have g0 := Bc; have g1 := Fo
 exact gs
theorem I2 : ∀ (code : List Int), Ok (Ca code) Fi (dn BV Fc [.t (.sl false (code.map (rK .u8)))]) := by
 intro code
 rw [AU BV (fn := Cj) rfl (xN rfl rfl _) (lB rfl)]
 have k0 := @Cj.eq_1; have f0 := @Ca.eq_1; have g0 := DE; have g1 := Km; have g2 := Kn
 exact gs
theorem H6 : ∀ (code : List Int), Ok (C5 code) Ez (dn BV Ey [.t (.sl false (code.map (rK .u8)))]) := by
 intro code
 rw [AU BV (fn := CH) rfl (xN rfl rfl _) (lB rfl)]
 have k0 := @CH.eq_1; have f0 := @C5.eq_1; have g0 := DE; have g1 := Fo
 exact gs
theorem Ko : ∀ (n : Int) (lo : Int) (hi : Int), Ok (Fe n lo hi) MR (dn BV J2 [.t (.v (.int .i64 n)), .t (.v (.int .i64 lo)), .t (.v (.int .i64 hi))]) := by
 intro n lo hi
 rw [AU BV (fn := HL) rfl (xN rfl rfl _) (lB rfl)]
 have k0 := @HL.eq_1; have f0 := @Fe.eq_1
 exact gs
theorem Jn : ∀ (r : A2) (a1 : Int), Ok (FC r a1) Gy (dn BV Cr [.agg ((A2.row r).map .t), .lp [.v (.int .i64 a1)] 0]) := by
 intro r a1
 rw [AU BV (fn := Dz) rfl (xN rfl rfl _) (lB rfl)]
 have k0 := @Dz.eq_1; have f0 := @FC.eq_1; have g0 := Ko
 exact gs
theorem D5 (s : List A2) : ∀ (x1 : Int) (f : Int), Ok (AB s x1 f) B8 (ev BV C6 (.loop Bh) [.lv 0, .th Bi] (Gs (List.replicate 19 .dead) [(0, .t (.sl false (s.map A2.row))), (1, .fn Cr [.ptr (1, 0) [] 0 0 1 0]), (7, .t (.v (.int .i64 (Be s)))), (8, .t (.v (.int .i64 x1)))]) (Gu (List.replicate 19 []) [(1, [.mem [[.v (.int .i64 f)]] 0 true])])) := by
 unfold Ok
 refine AB.partial_correctness s _ ?_
 intro F ih x1 f
 show Ok _ _ _
 have ih : ∀ (x1 : Int) (f : Int), Ok (F x1 f) _ _ := ih
 rw [EH]
 have k0 := @Bh.eq_1; have k1 := @Bi.eq_1; have g0 := Jn; have t0 := ih
 exact gs
theorem DY : ∀ (s : List A2) (fc0 : Int), Ok (Aj s fc0) B8 (dn BV DA [.t (.sl false (s.map A2.row)), .fn Cr [.lp [.v (.int .i64 fc0)] 0]]) := by
 intro s fc0
 rw [AU BV (fn := BS) rfl (xN rfl rfl _) (lB rfl)]
 have k0 := @BS.eq_1; have f0 := @Aj.eq_1; have t0 := D5
 exact gs
theorem D6 : ∀ (s : List A2) (fc0 : Int), Ok (Ac s fc0) Bm (dn BV Cg [.t (.sl false (s.map A2.row)), .fn Cr [.lp [.v (.int .i64 fc0)] 0]]) := by
 intro s fc0
 rw [AU BV (fn := Aw) rfl (xN rfl rfl _) (lB rfl)]
 have k0 := @Aw.eq_1; have f0 := @Ac.eq_1; have g0 := DY
 exact gs
theorem Fp : ∀ (n : Int) (ranges : List A2), Ok (DN n ranges) Im (dn BV F4 [.t (.v (.int .i64 n)), .t (.sl false (ranges.map A2.row))]) := by
 intro n ranges
 rw [AU BV (fn := FA) rfl (xN rfl rfl _) (lB rfl)]
 have k0 := @FA.eq_1; have f0 := @DN.eq_1; have g0 := D6
 exact gs
theorem GX : ∀ (n : Int), Ok (CU n) Gz (dn BV Dg [.t (.v (.int .i64 n))]) := by
 intro n
 rw [AU BV (fn := Dh) rfl (xN rfl rfl _) (lB rfl)]
 have k0 := @Dh.eq_1; have f0 := @CU.eq_1; have g0 := Fp
 exact gs
end TT
