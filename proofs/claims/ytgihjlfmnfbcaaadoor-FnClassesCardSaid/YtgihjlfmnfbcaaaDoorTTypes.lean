import Derived.Test.YtgihjlfmnfbcaaaDoorTH4
import Derived.Test.YtgihjlfmnfbcaaaDoorTHX4
set_option maxHeartbeats 2000000
set_option linter.unusedVariables false
set_option linter.unusedSimpArgs false
set_option linter.defProp false
set_option maxRecDepth 100000
namespace TT
open Go
structure A8 where
 xb : List Int
 xi : Int
 xh : Int
def A8.row (o : Bool) (x : A8) : List T := [.sl o (x.xb.map (rK .u8)), .v (.int .i64 x.xi), .v (.int .i64 x.xh)]
theorem A8.row_eq (o : Bool) (x : A8) : A8.row o x = [.sl o (x.xb.map (rK .u8)), .v (.int .i64 x.xi), .v (.int .i64 x.xh)] := rfl
theorem QW (o : Bool) (l : List A8) : AG (l.map (A8.row o)) = l.map (A8.row false) := GF _ _ (fun x => by simp only [A8.row, D7, frz, NE, QL, QM, QN, NF]) l
theorem QX (l : List A8) : Au (l.map (A8.row true)) = true := GH _ (fun x => by simp only [A8.row, Cf, allOwn, NG, QO, QP, QQ, NH, Bool.and_self]) l
theorem QY (o : Bool) (l : List A8) : ((l.map (A8.row o)).all fun r => r.length == 3) = true := FN _ _ (fun x => by rfl) l
theorem QZ (o : Bool) (l l' : List A8) : ((l.map (A8.row o)).map (·.length) = (l'.map (A8.row o)).map (·.length)) = ((if l.length = l'.length then some () else none) = some ()) := Ib (A8.row o) 3 (fun x => by rfl) l l'
theorem Qa (x : A8) : A8.mk x.xb x.xi x.xh = x := by cases x; rfl
structure A2 where
 xa0 : Int
 xa1 : Int
def A2.row (x : A2) : List T := [.v (.int .i64 x.xa0), .v (.int .i64 x.xa1)]
theorem A2.row_eq (x : A2) : A2.row x = [.v (.int .i64 x.xa0), .v (.int .i64 x.xa1)] := rfl
theorem NJ (l : List A2) : AG (l.map A2.row) = l.map A2.row := GF _ _ (fun x => by simp only [A2.row, D7, frz, NE, QL, QM, QN, NF]) l
theorem NK (l : List A2) : Au (l.map A2.row) = true := GH _ (fun x => by simp only [A2.row, Cf, allOwn, NG, QO, QP, QQ, NH, Bool.and_self]) l
theorem NL (l : List A2) : ((l.map A2.row).all fun r => r.length == 2) = true := FN _ _ (fun x => by rfl) l
theorem NM (l l' : List A2) : ((l.map A2.row).map (·.length) = (l'.map A2.row).map (·.length)) = ((if l.length = l'.length then some () else none) = some ()) := Ib A2.row 2 (fun x => by rfl) l l'
theorem Jj (l : List A2) (i : Nat) (v0 : Int) (v1 : Int) : (l.map A2.row).set i [.v (.int .i64 v0), .v (.int .i64 v1)] = (l.set i (A2.mk v0 v1)).map A2.row := QU A2.row l i (A2.mk v0 v1) _ (by simp only [A2.row_eq])
theorem Jk (l : List A2) (rs : Rows) (v0 : Int) (v1 : Int) : l.map A2.row ++ ([.v (.int .i64 v0), .v (.int .i64 v1)] :: rs) = (l ++ [(A2.mk v0 v1)]).map A2.row ++ rs := QV A2.row l (A2.mk v0 v1) _ rs (by simp only [A2.row_eq])
theorem Jl (n : Nat) (v0 : Int) (v1 : Int) : List.replicate n [T.v (.int .i64 v0), T.v (.int .i64 v1)] = (List.replicate n (A2.mk v0 v1)).map A2.row := VA A2.row n (A2.mk v0 v1) _ (by simp only [A2.row_eq])
theorem NN (x : A2) : A2.mk x.xa0 x.xa1 = x := by cases x; rfl
def RS := And.intro (@A8.row_eq) <| And.intro (@Qa) <| And.intro (@QW) <| And.intro (@QX) <| And.intro (@QY) <| And.intro (@QZ) <| And.intro (@A2.row_eq) <| And.intro (@Jj) <| And.intro (@Jk) <| And.intro (@Jl) <| And.intro (@NN) <| And.intro (@NJ) <| And.intro (@NK) <| And.intro (@NL) <| (@NM)
end TT
