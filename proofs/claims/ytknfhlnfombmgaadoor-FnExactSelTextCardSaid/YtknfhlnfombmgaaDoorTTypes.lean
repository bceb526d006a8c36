import Derived.Test.YtknfhlnfombmgaaDoorTH5
import Derived.Test.YtknfhlnfombmgaaDoorTHX
set_option linter.unusedVariables false
set_option linter.unusedSimpArgs false
set_option linter.defProp false
set_option maxRecDepth 100000
namespace TT
open Go
structure GPred where
  Kind : Int
  N : Int
  Pre : ByteArray
  Local : ByteArray
  Val : ByteArray
def GPred.row (x : GPred) : List T := [.v (.int .i64 x.Kind), .v (.int .i64 x.N), .v (.string x.Pre), .v (.string x.Local), .v (.string x.Val)]
theorem GPred.row_eq (x : GPred) : GPred.row x = [.v (.int .i64 x.Kind), .v (.int .i64 x.N), .v (.string x.Pre), .v (.string x.Local), .v (.string x.Val)] := rfl
theorem frz_GPred (l : List GPred) : frzRs (l.map GPred.row) = l.map GPred.row := frz_map _ _ (fun x => by simp only [GPred.row, frzR, frz, frz_rI, frz_rS, frz_rB, frz_rLI]) l
theorem own_GPred (l : List GPred) : allOwnRs (l.map GPred.row) = true := own_map _ (fun x => by simp only [GPred.row, allOwnR, allOwn, own_rI, own_rS, own_rB, own_rLI, Bool.and_self]) l
theorem all_GPred (l : List GPred) : ((l.map GPred.row).all fun r => r.length == 5) = true := all_rows _ _ (fun x => by rfl) l
theorem len_GPred (l l' : List GPred) : ((l.map GPred.row).map (·.length) = (l'.map GPred.row).map (·.length)) = ((if l.length = l'.length then some () else none) = some ()) := lens_eq GPred.row 5 (fun x => by rfl) l l'
theorem fset_GPred_0 (l : List GPred) (i : Nat) (v0 : Int) (v1 : Int) (v2 : ByteArray) (v3 : ByteArray) (v4 : ByteArray) : (l.map GPred.row).set i [.v (.int .i64 v0), .v (.int .i64 v1), .v (.string v2), .v (.string v3), .v (.string v4)] = (l.set i (GPred.mk v0 v1 v2 v3 v4)).map GPred.row := fset GPred.row l i (GPred.mk v0 v1 v2 v3 v4) _ (by simp only [GPred.row_eq])
theorem fapp_GPred_0 (l : List GPred) (rs : Rows) (v0 : Int) (v1 : Int) (v2 : ByteArray) (v3 : ByteArray) (v4 : ByteArray) : l.map GPred.row ++ ([.v (.int .i64 v0), .v (.int .i64 v1), .v (.string v2), .v (.string v3), .v (.string v4)] :: rs) = (l ++ [(GPred.mk v0 v1 v2 v3 v4)]).map GPred.row ++ rs := fapp GPred.row l (GPred.mk v0 v1 v2 v3 v4) _ rs (by simp only [GPred.row_eq])
theorem frep_GPred_0 (n : Nat) (v0 : Int) (v1 : Int) (v2 : ByteArray) (v3 : ByteArray) (v4 : ByteArray) : List.replicate n [T.v (.int .i64 v0), T.v (.int .i64 v1), T.v (.string v2), T.v (.string v3), T.v (.string v4)] = (List.replicate n (GPred.mk v0 v1 v2 v3 v4)).map GPred.row := frep GPred.row n (GPred.mk v0 v1 v2 v3 v4) _ (by simp only [GPred.row_eq])
theorem eta_GPred (x : GPred) : GPred.mk x.Kind x.N x.Pre x.Local x.Val = x := by cases x; rfl

structure GStp where
  Deep : Bool
  Kind : Int
  Pre : ByteArray
  Local : ByteArray
  Preds : List GPred
def GStp.row (o : Bool) (x : GStp) : List T := [.v (.bool x.Deep), .v (.int .i64 x.Kind), .v (.string x.Pre), .v (.string x.Local), .sl o (x.Preds.map GPred.row)]
theorem GStp.row_eq (o : Bool) (x : GStp) : GStp.row o x = [.v (.bool x.Deep), .v (.int .i64 x.Kind), .v (.string x.Pre), .v (.string x.Local), .sl o (x.Preds.map GPred.row)] := rfl
theorem frz_GStp (o : Bool) (l : List GStp) : frzRs (l.map (GStp.row o)) = l.map (GStp.row false) := frz_map _ _ (fun x => by simp only [GStp.row, frzR, frz, frz_rI, frz_rS, frz_rB, frz_rLI, frz_GPred]) l
theorem own_GStp (l : List GStp) : allOwnRs (l.map (GStp.row true)) = true := own_map _ (fun x => by simp only [GStp.row, allOwnR, allOwn, own_rI, own_rS, own_rB, own_rLI, own_GPred, Bool.and_self]) l
theorem all_GStp (o : Bool) (l : List GStp) : ((l.map (GStp.row o)).all fun r => r.length == 5) = true := all_rows _ _ (fun x => by rfl) l
theorem len_GStp (o : Bool) (l l' : List GStp) : ((l.map (GStp.row o)).map (·.length) = (l'.map (GStp.row o)).map (·.length)) = ((if l.length = l'.length then some () else none) = some ()) := lens_eq (GStp.row o) 5 (fun x => by rfl) l l'
theorem fset_GStp_0 (o : Bool) (l : List GStp) (i : Nat) (v0 : Bool) (v1 : Int) (v2 : ByteArray) (v3 : ByteArray) (v4 : List GPred) : (l.map (GStp.row o)).set i [.v (.bool v0), .v (.int .i64 v1), .v (.string v2), .v (.string v3), .sl o (v4.map GPred.row)] = (l.set i (GStp.mk v0 v1 v2 v3 v4)).map (GStp.row o) := fset (GStp.row o) l i (GStp.mk v0 v1 v2 v3 v4) _ (by simp only [GStp.row_eq])
theorem fapp_GStp_0 (o : Bool) (l : List GStp) (rs : Rows) (v0 : Bool) (v1 : Int) (v2 : ByteArray) (v3 : ByteArray) (v4 : List GPred) : l.map (GStp.row o) ++ ([.v (.bool v0), .v (.int .i64 v1), .v (.string v2), .v (.string v3), .sl o (v4.map GPred.row)] :: rs) = (l ++ [(GStp.mk v0 v1 v2 v3 v4)]).map (GStp.row o) ++ rs := fapp (GStp.row o) l (GStp.mk v0 v1 v2 v3 v4) _ rs (by simp only [GStp.row_eq])
theorem frep_GStp_0 (o : Bool) (n : Nat) (v0 : Bool) (v1 : Int) (v2 : ByteArray) (v3 : ByteArray) (v4 : List GPred) : List.replicate n [T.v (.bool v0), T.v (.int .i64 v1), T.v (.string v2), T.v (.string v3), T.sl o (v4.map GPred.row)] = (List.replicate n (GStp.mk v0 v1 v2 v3 v4)).map (GStp.row o) := frep (GStp.row o) n (GStp.mk v0 v1 v2 v3 v4) _ (by simp only [GStp.row_eq])
theorem fset_GStp_1 (o : Bool) (l : List GStp) (i : Nat) (v0 : Bool) (v1 : Int) (v2 : ByteArray) (v3 : ByteArray) : (l.map (GStp.row o)).set i [.v (.bool v0), .v (.int .i64 v1), .v (.string v2), .v (.string v3), .sl o []] = (l.set i (GStp.mk v0 v1 v2 v3 [])).map (GStp.row o) := fset (GStp.row o) l i (GStp.mk v0 v1 v2 v3 []) _ (by simp only [GStp.row_eq, List.map_nil])
theorem fapp_GStp_1 (o : Bool) (l : List GStp) (rs : Rows) (v0 : Bool) (v1 : Int) (v2 : ByteArray) (v3 : ByteArray) : l.map (GStp.row o) ++ ([.v (.bool v0), .v (.int .i64 v1), .v (.string v2), .v (.string v3), .sl o []] :: rs) = (l ++ [(GStp.mk v0 v1 v2 v3 [])]).map (GStp.row o) ++ rs := fapp (GStp.row o) l (GStp.mk v0 v1 v2 v3 []) _ rs (by simp only [GStp.row_eq, List.map_nil])
theorem frep_GStp_1 (o : Bool) (n : Nat) (v0 : Bool) (v1 : Int) (v2 : ByteArray) (v3 : ByteArray) : List.replicate n [T.v (.bool v0), T.v (.int .i64 v1), T.v (.string v2), T.v (.string v3), T.sl o []] = (List.replicate n (GStp.mk v0 v1 v2 v3 [])).map (GStp.row o) := frep (GStp.row o) n (GStp.mk v0 v1 v2 v3 []) _ (by simp only [GStp.row_eq, List.map_nil])
theorem fset_GStp_L (o : Bool) (l : List GStp) (i : Nat) (v0 : Bool) (v1 : Int) (v2 : ByteArray) (v3 : ByteArray) (v4Kind : Int) (v4N : Int) (v4Pre : ByteArray) (v4Local : ByteArray) (v4Val : ByteArray) : (l.map (GStp.row o)).set i [.v (.bool v0), .v (.int .i64 v1), .v (.string v2), .v (.string v3), .sl o [[.v (.int .i64 v4Kind), .v (.int .i64 v4N), .v (.string v4Pre), .v (.string v4Local), .v (.string v4Val)]]] = (l.set i (GStp.mk v0 v1 v2 v3 [GPred.mk v4Kind v4N v4Pre v4Local v4Val])).map (GStp.row o) := fset (GStp.row o) l i (GStp.mk v0 v1 v2 v3 [GPred.mk v4Kind v4N v4Pre v4Local v4Val]) _ (by simp only [GStp.row_eq, List.map_cons, List.map_nil, GPred.row_eq])
theorem fapp_GStp_L (o : Bool) (l : List GStp) (rs : Rows) (v0 : Bool) (v1 : Int) (v2 : ByteArray) (v3 : ByteArray) (v4Kind : Int) (v4N : Int) (v4Pre : ByteArray) (v4Local : ByteArray) (v4Val : ByteArray) : l.map (GStp.row o) ++ ([.v (.bool v0), .v (.int .i64 v1), .v (.string v2), .v (.string v3), .sl o [[.v (.int .i64 v4Kind), .v (.int .i64 v4N), .v (.string v4Pre), .v (.string v4Local), .v (.string v4Val)]]] :: rs) = (l ++ [(GStp.mk v0 v1 v2 v3 [GPred.mk v4Kind v4N v4Pre v4Local v4Val])]).map (GStp.row o) ++ rs := fapp (GStp.row o) l (GStp.mk v0 v1 v2 v3 [GPred.mk v4Kind v4N v4Pre v4Local v4Val]) _ rs (by simp only [GStp.row_eq, List.map_cons, List.map_nil, GPred.row_eq])
theorem frep_GStp_L (o : Bool) (n : Nat) (v0 : Bool) (v1 : Int) (v2 : ByteArray) (v3 : ByteArray) (v4Kind : Int) (v4N : Int) (v4Pre : ByteArray) (v4Local : ByteArray) (v4Val : ByteArray) : List.replicate n [T.v (.bool v0), T.v (.int .i64 v1), T.v (.string v2), T.v (.string v3), T.sl o [[.v (.int .i64 v4Kind), .v (.int .i64 v4N), .v (.string v4Pre), .v (.string v4Local), .v (.string v4Val)]]] = (List.replicate n (GStp.mk v0 v1 v2 v3 [GPred.mk v4Kind v4N v4Pre v4Local v4Val])).map (GStp.row o) := frep (GStp.row o) n (GStp.mk v0 v1 v2 v3 [GPred.mk v4Kind v4N v4Pre v4Local v4Val]) _ (by simp only [GStp.row_eq, List.map_cons, List.map_nil, GPred.row_eq])
theorem eta_GStp (x : GStp) : GStp.mk x.Deep x.Kind x.Pre x.Local x.Preds = x := by cases x; rfl

structure GSel where
  Id : ByteArray
  Steps : List GStp
def GSel.row (o : Bool) (x : GSel) : List T := [.v (.string x.Id), .sl o (x.Steps.map (GStp.row o))]
theorem GSel.row_eq (o : Bool) (x : GSel) : GSel.row o x = [.v (.string x.Id), .sl o (x.Steps.map (GStp.row o))] := rfl
theorem frz_GSel (o : Bool) (l : List GSel) : frzRs (l.map (GSel.row o)) = l.map (GSel.row false) := frz_map _ _ (fun x => by simp only [GSel.row, frzR, frz, frz_rI, frz_rS, frz_rB, frz_rLI, frz_GStp]) l
theorem own_GSel (l : List GSel) : allOwnRs (l.map (GSel.row true)) = true := own_map _ (fun x => by simp only [GSel.row, allOwnR, allOwn, own_rI, own_rS, own_rB, own_rLI, own_GStp, Bool.and_self]) l
theorem all_GSel (o : Bool) (l : List GSel) : ((l.map (GSel.row o)).all fun r => r.length == 2) = true := all_rows _ _ (fun x => by rfl) l
theorem len_GSel (o : Bool) (l l' : List GSel) : ((l.map (GSel.row o)).map (·.length) = (l'.map (GSel.row o)).map (·.length)) = ((if l.length = l'.length then some () else none) = some ()) := lens_eq (GSel.row o) 2 (fun x => by rfl) l l'
theorem fset_GSel_0 (o : Bool) (l : List GSel) (i : Nat) (v0 : ByteArray) (v1 : List GStp) : (l.map (GSel.row o)).set i [.v (.string v0), .sl o (v1.map (GStp.row o))] = (l.set i (GSel.mk v0 v1)).map (GSel.row o) := fset (GSel.row o) l i (GSel.mk v0 v1) _ (by simp only [GSel.row_eq])
theorem fapp_GSel_0 (o : Bool) (l : List GSel) (rs : Rows) (v0 : ByteArray) (v1 : List GStp) : l.map (GSel.row o) ++ ([.v (.string v0), .sl o (v1.map (GStp.row o))] :: rs) = (l ++ [(GSel.mk v0 v1)]).map (GSel.row o) ++ rs := fapp (GSel.row o) l (GSel.mk v0 v1) _ rs (by simp only [GSel.row_eq])
theorem frep_GSel_0 (o : Bool) (n : Nat) (v0 : ByteArray) (v1 : List GStp) : List.replicate n [T.v (.string v0), T.sl o (v1.map (GStp.row o))] = (List.replicate n (GSel.mk v0 v1)).map (GSel.row o) := frep (GSel.row o) n (GSel.mk v0 v1) _ (by simp only [GSel.row_eq])
theorem fset_GSel_1 (o : Bool) (l : List GSel) (i : Nat) (v0 : ByteArray) : (l.map (GSel.row o)).set i [.v (.string v0), .sl o []] = (l.set i (GSel.mk v0 [])).map (GSel.row o) := fset (GSel.row o) l i (GSel.mk v0 []) _ (by simp only [GSel.row_eq, List.map_nil])
theorem fapp_GSel_1 (o : Bool) (l : List GSel) (rs : Rows) (v0 : ByteArray) : l.map (GSel.row o) ++ ([.v (.string v0), .sl o []] :: rs) = (l ++ [(GSel.mk v0 [])]).map (GSel.row o) ++ rs := fapp (GSel.row o) l (GSel.mk v0 []) _ rs (by simp only [GSel.row_eq, List.map_nil])
theorem frep_GSel_1 (o : Bool) (n : Nat) (v0 : ByteArray) : List.replicate n [T.v (.string v0), T.sl o []] = (List.replicate n (GSel.mk v0 [])).map (GSel.row o) := frep (GSel.row o) n (GSel.mk v0 []) _ (by simp only [GSel.row_eq, List.map_nil])
theorem eta_GSel (x : GSel) : GSel.mk x.Id x.Steps = x := by cases x; rfl

structure GArr2Int where
  xa0 : Int
  xa1 : Int
def GArr2Int.row (x : GArr2Int) : List T := [.v (.int .i64 x.xa0), .v (.int .i64 x.xa1)]
theorem GArr2Int.row_eq (x : GArr2Int) : GArr2Int.row x = [.v (.int .i64 x.xa0), .v (.int .i64 x.xa1)] := rfl
theorem frz_GArr2Int (l : List GArr2Int) : frzRs (l.map GArr2Int.row) = l.map GArr2Int.row := frz_map _ _ (fun x => by simp only [GArr2Int.row, frzR, frz, frz_rI, frz_rS, frz_rB, frz_rLI]) l
theorem own_GArr2Int (l : List GArr2Int) : allOwnRs (l.map GArr2Int.row) = true := own_map _ (fun x => by simp only [GArr2Int.row, allOwnR, allOwn, own_rI, own_rS, own_rB, own_rLI, Bool.and_self]) l
theorem all_GArr2Int (l : List GArr2Int) : ((l.map GArr2Int.row).all fun r => r.length == 2) = true := all_rows _ _ (fun x => by rfl) l
theorem len_GArr2Int (l l' : List GArr2Int) : ((l.map GArr2Int.row).map (·.length) = (l'.map GArr2Int.row).map (·.length)) = ((if l.length = l'.length then some () else none) = some ()) := lens_eq GArr2Int.row 2 (fun x => by rfl) l l'
theorem fset_GArr2Int_0 (l : List GArr2Int) (i : Nat) (v0 : Int) (v1 : Int) : (l.map GArr2Int.row).set i [.v (.int .i64 v0), .v (.int .i64 v1)] = (l.set i (GArr2Int.mk v0 v1)).map GArr2Int.row := fset GArr2Int.row l i (GArr2Int.mk v0 v1) _ (by simp only [GArr2Int.row_eq])
theorem fapp_GArr2Int_0 (l : List GArr2Int) (rs : Rows) (v0 : Int) (v1 : Int) : l.map GArr2Int.row ++ ([.v (.int .i64 v0), .v (.int .i64 v1)] :: rs) = (l ++ [(GArr2Int.mk v0 v1)]).map GArr2Int.row ++ rs := fapp GArr2Int.row l (GArr2Int.mk v0 v1) _ rs (by simp only [GArr2Int.row_eq])
theorem frep_GArr2Int_0 (n : Nat) (v0 : Int) (v1 : Int) : List.replicate n [T.v (.int .i64 v0), T.v (.int .i64 v1)] = (List.replicate n (GArr2Int.mk v0 v1)).map GArr2Int.row := frep GArr2Int.row n (GArr2Int.mk v0 v1) _ (by simp only [GArr2Int.row_eq])
theorem eta_GArr2Int (x : GArr2Int) : GArr2Int.mk x.xa0 x.xa1 = x := by cases x; rfl

def RS := And.intro (@GPred.row_eq) <| And.intro (@fset_GPred_0) <| And.intro (@fapp_GPred_0) <| And.intro (@frep_GPred_0) <| And.intro (@eta_GPred) <| And.intro (@frz_GPred) <| And.intro (@own_GPred) <| And.intro (@all_GPred) <| And.intro (@len_GPred) <| And.intro (@GStp.row_eq) <| And.intro (@fset_GStp_0) <| And.intro (@fapp_GStp_0) <| And.intro (@frep_GStp_0) <| And.intro (@fset_GStp_1) <| And.intro (@fapp_GStp_1) <| And.intro (@frep_GStp_1) <| And.intro (@fset_GStp_L) <| And.intro (@fapp_GStp_L) <| And.intro (@frep_GStp_L) <| And.intro (@eta_GStp) <| And.intro (@frz_GStp) <| And.intro (@own_GStp) <| And.intro (@all_GStp) <| And.intro (@len_GStp) <| And.intro (@GSel.row_eq) <| And.intro (@fset_GSel_0) <| And.intro (@fapp_GSel_0) <| And.intro (@frep_GSel_0) <| And.intro (@fset_GSel_1) <| And.intro (@fapp_GSel_1) <| And.intro (@frep_GSel_1) <| And.intro (@eta_GSel) <| And.intro (@frz_GSel) <| And.intro (@own_GSel) <| And.intro (@all_GSel) <| And.intro (@len_GSel) <| And.intro (@GArr2Int.row_eq) <| And.intro (@fset_GArr2Int_0) <| And.intro (@fapp_GArr2Int_0) <| And.intro (@frep_GArr2Int_0) <| And.intro (@eta_GArr2Int) <| And.intro (@frz_GArr2Int) <| And.intro (@own_GArr2Int) <| And.intro (@all_GArr2Int) <| (@len_GArr2Int)
end TT
