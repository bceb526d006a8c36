import Derived.Test.YtejfgkcjhmmjkaaGreatDoorTH4
import Derived.Test.YtejfgkcjhmmjkaaGreatDoorTHX4
set_option maxHeartbeats 2000000
set_option linter.unusedVariables false
set_option linter.unusedSimpArgs false
set_option linter.defProp false
set_option maxRecDepth 100000
namespace TT
open Go
structure Gl1Cur where
 xb : List Int
 xi : Int
 xh : Int
def Gl1Cur.row (o : Bool) (x : Gl1Cur) : List T := [.sl o (x.xb.map (rK .u8)), .v (.int .i64 x.xi), .v (.int .i64 x.xh)]
theorem Gl1Cur.row_eq (o : Bool) (x : Gl1Cur) : Gl1Cur.row o x = [.sl o (x.xb.map (rK .u8)), .v (.int .i64 x.xi), .v (.int .i64 x.xh)] := rfl
theorem frz_Gl1Cur (o : Bool) (l : List Gl1Cur) : frzRs (l.map (Gl1Cur.row o)) = l.map (Gl1Cur.row false) := frz_map _ _ (fun x => by simp only [Gl1Cur.row, frzR, frz, frz_rI, frz_rK, frz_rS, frz_rB, frz_rLI]) l
theorem own_Gl1Cur (l : List Gl1Cur) : allOwnRs (l.map (Gl1Cur.row true)) = true := own_map _ (fun x => by simp only [Gl1Cur.row, allOwnR, allOwn, own_rI, own_rK, own_rS, own_rB, own_rLI, Bool.and_self]) l
theorem all_Gl1Cur (o : Bool) (l : List Gl1Cur) : ((l.map (Gl1Cur.row o)).all fun r => r.length == 3) = true := all_rows _ _ (fun x => by rfl) l
theorem len_Gl1Cur (o : Bool) (l l' : List Gl1Cur) : ((l.map (Gl1Cur.row o)).map (·.length) = (l'.map (Gl1Cur.row o)).map (·.length)) = ((if l.length = l'.length then some () else none) = some ()) := lens_eq (Gl1Cur.row o) 3 (fun x => by rfl) l l'
theorem eta_Gl1Cur (x : Gl1Cur) : Gl1Cur.mk x.xb x.xi x.xh = x := by cases x; rfl
structure GEnt where
 Name : ByteArray
 Val : ByteArray
def GEnt.row (x : GEnt) : List T := [.v (.string x.Name), .v (.string x.Val)]
theorem GEnt.row_eq (x : GEnt) : GEnt.row x = [.v (.string x.Name), .v (.string x.Val)] := rfl
theorem frz_GEnt (l : List GEnt) : frzRs (l.map GEnt.row) = l.map GEnt.row := frz_map _ _ (fun x => by simp only [GEnt.row, frzR, frz, frz_rI, frz_rK, frz_rS, frz_rB, frz_rLI]) l
theorem own_GEnt (l : List GEnt) : allOwnRs (l.map GEnt.row) = true := own_map _ (fun x => by simp only [GEnt.row, allOwnR, allOwn, own_rI, own_rK, own_rS, own_rB, own_rLI, Bool.and_self]) l
theorem all_GEnt (l : List GEnt) : ((l.map GEnt.row).all fun r => r.length == 2) = true := all_rows _ _ (fun x => by rfl) l
theorem len_GEnt (l l' : List GEnt) : ((l.map GEnt.row).map (·.length) = (l'.map GEnt.row).map (·.length)) = ((if l.length = l'.length then some () else none) = some ()) := lens_eq GEnt.row 2 (fun x => by rfl) l l'
theorem fset_GEnt_0 (l : List GEnt) (i : Nat) (v0 : ByteArray) (v1 : ByteArray) : (l.map GEnt.row).set i [.v (.string v0), .v (.string v1)] = (l.set i (GEnt.mk v0 v1)).map GEnt.row := fset GEnt.row l i (GEnt.mk v0 v1) _ (by simp only [GEnt.row_eq])
theorem fapp_GEnt_0 (l : List GEnt) (rs : Rows) (v0 : ByteArray) (v1 : ByteArray) : l.map GEnt.row ++ ([.v (.string v0), .v (.string v1)] :: rs) = (l ++ [(GEnt.mk v0 v1)]).map GEnt.row ++ rs := fapp GEnt.row l (GEnt.mk v0 v1) _ rs (by simp only [GEnt.row_eq])
theorem frep_GEnt_0 (n : Nat) (v0 : ByteArray) (v1 : ByteArray) : List.replicate n [T.v (.string v0), T.v (.string v1)] = (List.replicate n (GEnt.mk v0 v1)).map GEnt.row := frep GEnt.row n (GEnt.mk v0 v1) _ (by simp only [GEnt.row_eq])
theorem eta_GEnt (x : GEnt) : GEnt.mk x.Name x.Val = x := by cases x; rfl
structure GArr2Int where
 xa0 : Int
 xa1 : Int
def GArr2Int.row (x : GArr2Int) : List T := [.v (.int .i64 x.xa0), .v (.int .i64 x.xa1)]
theorem GArr2Int.row_eq (x : GArr2Int) : GArr2Int.row x = [.v (.int .i64 x.xa0), .v (.int .i64 x.xa1)] := rfl
theorem frz_GArr2Int (l : List GArr2Int) : frzRs (l.map GArr2Int.row) = l.map GArr2Int.row := frz_map _ _ (fun x => by simp only [GArr2Int.row, frzR, frz, frz_rI, frz_rK, frz_rS, frz_rB, frz_rLI]) l
theorem own_GArr2Int (l : List GArr2Int) : allOwnRs (l.map GArr2Int.row) = true := own_map _ (fun x => by simp only [GArr2Int.row, allOwnR, allOwn, own_rI, own_rK, own_rS, own_rB, own_rLI, Bool.and_self]) l
theorem all_GArr2Int (l : List GArr2Int) : ((l.map GArr2Int.row).all fun r => r.length == 2) = true := all_rows _ _ (fun x => by rfl) l
theorem len_GArr2Int (l l' : List GArr2Int) : ((l.map GArr2Int.row).map (·.length) = (l'.map GArr2Int.row).map (·.length)) = ((if l.length = l'.length then some () else none) = some ()) := lens_eq GArr2Int.row 2 (fun x => by rfl) l l'
theorem fset_GArr2Int_0 (l : List GArr2Int) (i : Nat) (v0 : Int) (v1 : Int) : (l.map GArr2Int.row).set i [.v (.int .i64 v0), .v (.int .i64 v1)] = (l.set i (GArr2Int.mk v0 v1)).map GArr2Int.row := fset GArr2Int.row l i (GArr2Int.mk v0 v1) _ (by simp only [GArr2Int.row_eq])
theorem fapp_GArr2Int_0 (l : List GArr2Int) (rs : Rows) (v0 : Int) (v1 : Int) : l.map GArr2Int.row ++ ([.v (.int .i64 v0), .v (.int .i64 v1)] :: rs) = (l ++ [(GArr2Int.mk v0 v1)]).map GArr2Int.row ++ rs := fapp GArr2Int.row l (GArr2Int.mk v0 v1) _ rs (by simp only [GArr2Int.row_eq])
theorem frep_GArr2Int_0 (n : Nat) (v0 : Int) (v1 : Int) : List.replicate n [T.v (.int .i64 v0), T.v (.int .i64 v1)] = (List.replicate n (GArr2Int.mk v0 v1)).map GArr2Int.row := frep GArr2Int.row n (GArr2Int.mk v0 v1) _ (by simp only [GArr2Int.row_eq])
theorem eta_GArr2Int (x : GArr2Int) : GArr2Int.mk x.xa0 x.xa1 = x := by cases x; rfl
def RS := And.intro (@Gl1Cur.row_eq) <| And.intro (@eta_Gl1Cur) <| And.intro (@frz_Gl1Cur) <| And.intro (@own_Gl1Cur) <| And.intro (@all_Gl1Cur) <| And.intro (@len_Gl1Cur) <| And.intro (@GEnt.row_eq) <| And.intro (@fset_GEnt_0) <| And.intro (@fapp_GEnt_0) <| And.intro (@frep_GEnt_0) <| And.intro (@eta_GEnt) <| And.intro (@frz_GEnt) <| And.intro (@own_GEnt) <| And.intro (@all_GEnt) <| And.intro (@len_GEnt) <| And.intro (@GArr2Int.row_eq) <| And.intro (@fset_GArr2Int_0) <| And.intro (@fapp_GArr2Int_0) <| And.intro (@frep_GArr2Int_0) <| And.intro (@eta_GArr2Int) <| And.intro (@frz_GArr2Int) <| And.intro (@own_GArr2Int) <| And.intro (@all_GArr2Int) <| (@len_GArr2Int)
end TT
