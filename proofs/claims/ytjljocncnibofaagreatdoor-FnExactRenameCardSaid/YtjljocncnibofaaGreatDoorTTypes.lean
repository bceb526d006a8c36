import Derived.Test.YtjljocncnibofaaGreatDoorTH4
import Derived.Test.YtjljocncnibofaaGreatDoorTHX4
set_option maxHeartbeats 40000000
set_option linter.unusedVariables false
set_option linter.unusedSimpArgs false
set_option linter.defProp false
set_option maxRecDepth 100000
namespace TT
open Go
structure GDecl where
 Pre : ByteArray
 Uri : ByteArray
def GDecl.row (x : GDecl) : List T := [.v (.string x.Pre), .v (.string x.Uri)]
theorem GDecl.row_eq (x : GDecl) : GDecl.row x = [.v (.string x.Pre), .v (.string x.Uri)] := rfl
theorem frz_GDecl (l : List GDecl) : frzRs (l.map GDecl.row) = l.map GDecl.row := frz_map _ _ (fun x => by simp only [GDecl.row, frzR, frz, frz_rI, frz_rK, frz_rS, frz_rB, frz_rLI]) l
theorem own_GDecl (l : List GDecl) : allOwnRs (l.map GDecl.row) = true := own_map _ (fun x => by simp only [GDecl.row, allOwnR, allOwn, own_rI, own_rK, own_rS, own_rB, own_rLI, Bool.and_self]) l
theorem all_GDecl (l : List GDecl) : ((l.map GDecl.row).all fun r => r.length == 2) = true := all_rows _ _ (fun x => by rfl) l
theorem len_GDecl (l l' : List GDecl) : ((l.map GDecl.row).map (·.length) = (l'.map GDecl.row).map (·.length)) = ((if l.length = l'.length then some () else none) = some ()) := lens_eq GDecl.row 2 (fun x => by rfl) l l'
theorem fset_GDecl_0 (l : List GDecl) (i : Nat) (v0 : ByteArray) (v1 : ByteArray) : (l.map GDecl.row).set i [.v (.string v0), .v (.string v1)] = (l.set i (GDecl.mk v0 v1)).map GDecl.row := fset GDecl.row l i (GDecl.mk v0 v1) _ (by simp only [GDecl.row_eq])
theorem fapp_GDecl_0 (l : List GDecl) (rs : Rows) (v0 : ByteArray) (v1 : ByteArray) : l.map GDecl.row ++ ([.v (.string v0), .v (.string v1)] :: rs) = (l ++ [(GDecl.mk v0 v1)]).map GDecl.row ++ rs := fapp GDecl.row l (GDecl.mk v0 v1) _ rs (by simp only [GDecl.row_eq])
theorem frep_GDecl_0 (n : Nat) (v0 : ByteArray) (v1 : ByteArray) : List.replicate n [T.v (.string v0), T.v (.string v1)] = (List.replicate n (GDecl.mk v0 v1)).map GDecl.row := frep GDecl.row n (GDecl.mk v0 v1) _ (by simp only [GDecl.row_eq])
theorem eta_GDecl (x : GDecl) : GDecl.mk x.Pre x.Uri = x := by cases x; rfl
structure GAttr where
 Pre : ByteArray
 Local : ByteArray
 Uri : ByteArray
 Val : ByteArray
def GAttr.row (x : GAttr) : List T := [.v (.string x.Pre), .v (.string x.Local), .v (.string x.Uri), .v (.string x.Val)]
theorem GAttr.row_eq (x : GAttr) : GAttr.row x = [.v (.string x.Pre), .v (.string x.Local), .v (.string x.Uri), .v (.string x.Val)] := rfl
theorem frz_GAttr (l : List GAttr) : frzRs (l.map GAttr.row) = l.map GAttr.row := frz_map _ _ (fun x => by simp only [GAttr.row, frzR, frz, frz_rI, frz_rK, frz_rS, frz_rB, frz_rLI]) l
theorem own_GAttr (l : List GAttr) : allOwnRs (l.map GAttr.row) = true := own_map _ (fun x => by simp only [GAttr.row, allOwnR, allOwn, own_rI, own_rK, own_rS, own_rB, own_rLI, Bool.and_self]) l
theorem all_GAttr (l : List GAttr) : ((l.map GAttr.row).all fun r => r.length == 4) = true := all_rows _ _ (fun x => by rfl) l
theorem len_GAttr (l l' : List GAttr) : ((l.map GAttr.row).map (·.length) = (l'.map GAttr.row).map (·.length)) = ((if l.length = l'.length then some () else none) = some ()) := lens_eq GAttr.row 4 (fun x => by rfl) l l'
theorem fset_GAttr_0 (l : List GAttr) (i : Nat) (v0 : ByteArray) (v1 : ByteArray) (v2 : ByteArray) (v3 : ByteArray) : (l.map GAttr.row).set i [.v (.string v0), .v (.string v1), .v (.string v2), .v (.string v3)] = (l.set i (GAttr.mk v0 v1 v2 v3)).map GAttr.row := fset GAttr.row l i (GAttr.mk v0 v1 v2 v3) _ (by simp only [GAttr.row_eq])
theorem fapp_GAttr_0 (l : List GAttr) (rs : Rows) (v0 : ByteArray) (v1 : ByteArray) (v2 : ByteArray) (v3 : ByteArray) : l.map GAttr.row ++ ([.v (.string v0), .v (.string v1), .v (.string v2), .v (.string v3)] :: rs) = (l ++ [(GAttr.mk v0 v1 v2 v3)]).map GAttr.row ++ rs := fapp GAttr.row l (GAttr.mk v0 v1 v2 v3) _ rs (by simp only [GAttr.row_eq])
theorem frep_GAttr_0 (n : Nat) (v0 : ByteArray) (v1 : ByteArray) (v2 : ByteArray) (v3 : ByteArray) : List.replicate n [T.v (.string v0), T.v (.string v1), T.v (.string v2), T.v (.string v3)] = (List.replicate n (GAttr.mk v0 v1 v2 v3)).map GAttr.row := frep GAttr.row n (GAttr.mk v0 v1 v2 v3) _ (by simp only [GAttr.row_eq])
theorem eta_GAttr (x : GAttr) : GAttr.mk x.Pre x.Local x.Uri x.Val = x := by cases x; rfl
structure GNode where
 Kind : Int
 Pre : ByteArray
 Local : ByteArray
 Uri : ByteArray
 Decls : List GDecl
 Attrs : List GAttr
 Kids : List GNode
 Text : ByteArray
mutual
def GNode.row (o : Bool) : GNode → List T
 | ⟨v0, v1, v2, v3, v4, v5, v6, v7⟩ => [.v (.int .i64 v0), .v (.string v1), .v (.string v2), .v (.string v3), .sl o (v4.map GDecl.row), .sl o (v5.map GAttr.row), .sl o (GNode.rows o v6), .v (.string v7)]
def GNode.rows (o : Bool) : List GNode → Rows
 | [] => []
 | x :: xs => GNode.row o x :: GNode.rows o xs
end
theorem GNode.rows_eq (o : Bool) (l : List GNode) : GNode.rows o l = l.map (GNode.row o) := by
 induction l with
 | nil => rfl
 | cons x l ih => simp only [GNode.rows, List.map_cons, ih]
theorem GNode.row_eq (o : Bool) (x : GNode) : GNode.row o x = [.v (.int .i64 x.Kind), .v (.string x.Pre), .v (.string x.Local), .v (.string x.Uri), .sl o (x.Decls.map GDecl.row), .sl o (x.Attrs.map GAttr.row), .sl o (x.Kids.map (GNode.row o)), .v (.string x.Text)] := by
 cases x; simp only [GNode.row, GNode.rows_eq]
mutual
theorem GNode.frz1 (o : Bool) : ∀ x : GNode, frzR (GNode.row o x) = GNode.row false x
 | ⟨v0, v1, v2, v3, v4, v5, v6, v7⟩ => by simp only [GNode.row, frzR, frz, frz_rI, frz_rK, frz_rS, frz_rB, frz_rLI, frz_GAttr, frz_GDecl, GNode.frzs]
theorem GNode.frzs (o : Bool) : ∀ l : List GNode, frzRs (GNode.rows o l) = GNode.rows false l
 | [] => rfl
 | x :: l => by simp only [GNode.rows, frzRs, GNode.frz1, GNode.frzs]
end
mutual
theorem GNode.own1 : ∀ x : GNode, allOwnR (GNode.row true x) = true
 | ⟨v0, v1, v2, v3, v4, v5, v6, v7⟩ => by simp only [GNode.row, allOwnR, allOwn, own_rI, own_rK, own_rS, own_rB, own_rLI, own_GAttr, own_GDecl, GNode.owns, Bool.and_self]
theorem GNode.owns : ∀ l : List GNode, allOwnRs (GNode.rows true l) = true
 | [] => rfl
 | x :: l => by simp only [GNode.rows, allOwnRs, GNode.own1, GNode.owns, Bool.and_self]
end
theorem frz_GNode (o : Bool) (l : List GNode) : frzRs (l.map (GNode.row o)) = l.map (GNode.row false) := frz_map _ _ (GNode.frz1 o) l
theorem own_GNode (l : List GNode) : allOwnRs (l.map (GNode.row true)) = true := own_map _ GNode.own1 l
theorem all_GNode (o : Bool) (l : List GNode) : ((l.map (GNode.row o)).all fun r => r.length == 8) = true := all_rows _ _ (fun x => by cases x; rfl) l
theorem len_GNode (o : Bool) (l l' : List GNode) : ((l.map (GNode.row o)).map (·.length) = (l'.map (GNode.row o)).map (·.length)) = ((if l.length = l'.length then some () else none) = some ()) := lens_eq (GNode.row o) 8 (fun x => by cases x; rfl) l l'
theorem fset_GNode_0 (o : Bool) (l : List GNode) (i : Nat) (v0 : Int) (v1 : ByteArray) (v2 : ByteArray) (v3 : ByteArray) (v4 : List GDecl) (v5 : List GAttr) (v6 : List GNode) (v7 : ByteArray) : (l.map (GNode.row o)).set i [.v (.int .i64 v0), .v (.string v1), .v (.string v2), .v (.string v3), .sl o (v4.map GDecl.row), .sl o (v5.map GAttr.row), .sl o (v6.map (GNode.row o)), .v (.string v7)] = (l.set i (GNode.mk v0 v1 v2 v3 v4 v5 v6 v7)).map (GNode.row o) := fset (GNode.row o) l i (GNode.mk v0 v1 v2 v3 v4 v5 v6 v7) _ (by simp only [GNode.row_eq])
theorem fapp_GNode_0 (o : Bool) (l : List GNode) (rs : Rows) (v0 : Int) (v1 : ByteArray) (v2 : ByteArray) (v3 : ByteArray) (v4 : List GDecl) (v5 : List GAttr) (v6 : List GNode) (v7 : ByteArray) : l.map (GNode.row o) ++ ([.v (.int .i64 v0), .v (.string v1), .v (.string v2), .v (.string v3), .sl o (v4.map GDecl.row), .sl o (v5.map GAttr.row), .sl o (v6.map (GNode.row o)), .v (.string v7)] :: rs) = (l ++ [(GNode.mk v0 v1 v2 v3 v4 v5 v6 v7)]).map (GNode.row o) ++ rs := fapp (GNode.row o) l (GNode.mk v0 v1 v2 v3 v4 v5 v6 v7) _ rs (by simp only [GNode.row_eq])
theorem frep_GNode_0 (o : Bool) (n : Nat) (v0 : Int) (v1 : ByteArray) (v2 : ByteArray) (v3 : ByteArray) (v4 : List GDecl) (v5 : List GAttr) (v6 : List GNode) (v7 : ByteArray) : List.replicate n [T.v (.int .i64 v0), T.v (.string v1), T.v (.string v2), T.v (.string v3), T.sl o (v4.map GDecl.row), T.sl o (v5.map GAttr.row), T.sl o (v6.map (GNode.row o)), T.v (.string v7)] = (List.replicate n (GNode.mk v0 v1 v2 v3 v4 v5 v6 v7)).map (GNode.row o) := frep (GNode.row o) n (GNode.mk v0 v1 v2 v3 v4 v5 v6 v7) _ (by simp only [GNode.row_eq])
theorem fset_GNode_1 (o : Bool) (l : List GNode) (i : Nat) (v0 : Int) (v1 : ByteArray) (v2 : ByteArray) (v3 : ByteArray) (v5 : List GAttr) (v6 : List GNode) (v7 : ByteArray) : (l.map (GNode.row o)).set i [.v (.int .i64 v0), .v (.string v1), .v (.string v2), .v (.string v3), .sl o [], .sl o (v5.map GAttr.row), .sl o (v6.map (GNode.row o)), .v (.string v7)] = (l.set i (GNode.mk v0 v1 v2 v3 [] v5 v6 v7)).map (GNode.row o) := fset (GNode.row o) l i (GNode.mk v0 v1 v2 v3 [] v5 v6 v7) _ (by simp only [GNode.row_eq, List.map_nil])
theorem fapp_GNode_1 (o : Bool) (l : List GNode) (rs : Rows) (v0 : Int) (v1 : ByteArray) (v2 : ByteArray) (v3 : ByteArray) (v5 : List GAttr) (v6 : List GNode) (v7 : ByteArray) : l.map (GNode.row o) ++ ([.v (.int .i64 v0), .v (.string v1), .v (.string v2), .v (.string v3), .sl o [], .sl o (v5.map GAttr.row), .sl o (v6.map (GNode.row o)), .v (.string v7)] :: rs) = (l ++ [(GNode.mk v0 v1 v2 v3 [] v5 v6 v7)]).map (GNode.row o) ++ rs := fapp (GNode.row o) l (GNode.mk v0 v1 v2 v3 [] v5 v6 v7) _ rs (by simp only [GNode.row_eq, List.map_nil])
theorem frep_GNode_1 (o : Bool) (n : Nat) (v0 : Int) (v1 : ByteArray) (v2 : ByteArray) (v3 : ByteArray) (v5 : List GAttr) (v6 : List GNode) (v7 : ByteArray) : List.replicate n [T.v (.int .i64 v0), T.v (.string v1), T.v (.string v2), T.v (.string v3), T.sl o [], T.sl o (v5.map GAttr.row), T.sl o (v6.map (GNode.row o)), T.v (.string v7)] = (List.replicate n (GNode.mk v0 v1 v2 v3 [] v5 v6 v7)).map (GNode.row o) := frep (GNode.row o) n (GNode.mk v0 v1 v2 v3 [] v5 v6 v7) _ (by simp only [GNode.row_eq, List.map_nil])
theorem fset_GNode_2 (o : Bool) (l : List GNode) (i : Nat) (v0 : Int) (v1 : ByteArray) (v2 : ByteArray) (v3 : ByteArray) (v4 : List GDecl) (v6 : List GNode) (v7 : ByteArray) : (l.map (GNode.row o)).set i [.v (.int .i64 v0), .v (.string v1), .v (.string v2), .v (.string v3), .sl o (v4.map GDecl.row), .sl o [], .sl o (v6.map (GNode.row o)), .v (.string v7)] = (l.set i (GNode.mk v0 v1 v2 v3 v4 [] v6 v7)).map (GNode.row o) := fset (GNode.row o) l i (GNode.mk v0 v1 v2 v3 v4 [] v6 v7) _ (by simp only [GNode.row_eq, List.map_nil])
theorem fapp_GNode_2 (o : Bool) (l : List GNode) (rs : Rows) (v0 : Int) (v1 : ByteArray) (v2 : ByteArray) (v3 : ByteArray) (v4 : List GDecl) (v6 : List GNode) (v7 : ByteArray) : l.map (GNode.row o) ++ ([.v (.int .i64 v0), .v (.string v1), .v (.string v2), .v (.string v3), .sl o (v4.map GDecl.row), .sl o [], .sl o (v6.map (GNode.row o)), .v (.string v7)] :: rs) = (l ++ [(GNode.mk v0 v1 v2 v3 v4 [] v6 v7)]).map (GNode.row o) ++ rs := fapp (GNode.row o) l (GNode.mk v0 v1 v2 v3 v4 [] v6 v7) _ rs (by simp only [GNode.row_eq, List.map_nil])
theorem frep_GNode_2 (o : Bool) (n : Nat) (v0 : Int) (v1 : ByteArray) (v2 : ByteArray) (v3 : ByteArray) (v4 : List GDecl) (v6 : List GNode) (v7 : ByteArray) : List.replicate n [T.v (.int .i64 v0), T.v (.string v1), T.v (.string v2), T.v (.string v3), T.sl o (v4.map GDecl.row), T.sl o [], T.sl o (v6.map (GNode.row o)), T.v (.string v7)] = (List.replicate n (GNode.mk v0 v1 v2 v3 v4 [] v6 v7)).map (GNode.row o) := frep (GNode.row o) n (GNode.mk v0 v1 v2 v3 v4 [] v6 v7) _ (by simp only [GNode.row_eq, List.map_nil])
theorem fset_GNode_3 (o : Bool) (l : List GNode) (i : Nat) (v0 : Int) (v1 : ByteArray) (v2 : ByteArray) (v3 : ByteArray) (v6 : List GNode) (v7 : ByteArray) : (l.map (GNode.row o)).set i [.v (.int .i64 v0), .v (.string v1), .v (.string v2), .v (.string v3), .sl o [], .sl o [], .sl o (v6.map (GNode.row o)), .v (.string v7)] = (l.set i (GNode.mk v0 v1 v2 v3 [] [] v6 v7)).map (GNode.row o) := fset (GNode.row o) l i (GNode.mk v0 v1 v2 v3 [] [] v6 v7) _ (by simp only [GNode.row_eq, List.map_nil])
theorem fapp_GNode_3 (o : Bool) (l : List GNode) (rs : Rows) (v0 : Int) (v1 : ByteArray) (v2 : ByteArray) (v3 : ByteArray) (v6 : List GNode) (v7 : ByteArray) : l.map (GNode.row o) ++ ([.v (.int .i64 v0), .v (.string v1), .v (.string v2), .v (.string v3), .sl o [], .sl o [], .sl o (v6.map (GNode.row o)), .v (.string v7)] :: rs) = (l ++ [(GNode.mk v0 v1 v2 v3 [] [] v6 v7)]).map (GNode.row o) ++ rs := fapp (GNode.row o) l (GNode.mk v0 v1 v2 v3 [] [] v6 v7) _ rs (by simp only [GNode.row_eq, List.map_nil])
theorem frep_GNode_3 (o : Bool) (n : Nat) (v0 : Int) (v1 : ByteArray) (v2 : ByteArray) (v3 : ByteArray) (v6 : List GNode) (v7 : ByteArray) : List.replicate n [T.v (.int .i64 v0), T.v (.string v1), T.v (.string v2), T.v (.string v3), T.sl o [], T.sl o [], T.sl o (v6.map (GNode.row o)), T.v (.string v7)] = (List.replicate n (GNode.mk v0 v1 v2 v3 [] [] v6 v7)).map (GNode.row o) := frep (GNode.row o) n (GNode.mk v0 v1 v2 v3 [] [] v6 v7) _ (by simp only [GNode.row_eq, List.map_nil])
theorem fset_GNode_4 (o : Bool) (l : List GNode) (i : Nat) (v0 : Int) (v1 : ByteArray) (v2 : ByteArray) (v3 : ByteArray) (v4 : List GDecl) (v5 : List GAttr) (v7 : ByteArray) : (l.map (GNode.row o)).set i [.v (.int .i64 v0), .v (.string v1), .v (.string v2), .v (.string v3), .sl o (v4.map GDecl.row), .sl o (v5.map GAttr.row), .sl o [], .v (.string v7)] = (l.set i (GNode.mk v0 v1 v2 v3 v4 v5 [] v7)).map (GNode.row o) := fset (GNode.row o) l i (GNode.mk v0 v1 v2 v3 v4 v5 [] v7) _ (by simp only [GNode.row_eq, List.map_nil])
theorem fapp_GNode_4 (o : Bool) (l : List GNode) (rs : Rows) (v0 : Int) (v1 : ByteArray) (v2 : ByteArray) (v3 : ByteArray) (v4 : List GDecl) (v5 : List GAttr) (v7 : ByteArray) : l.map (GNode.row o) ++ ([.v (.int .i64 v0), .v (.string v1), .v (.string v2), .v (.string v3), .sl o (v4.map GDecl.row), .sl o (v5.map GAttr.row), .sl o [], .v (.string v7)] :: rs) = (l ++ [(GNode.mk v0 v1 v2 v3 v4 v5 [] v7)]).map (GNode.row o) ++ rs := fapp (GNode.row o) l (GNode.mk v0 v1 v2 v3 v4 v5 [] v7) _ rs (by simp only [GNode.row_eq, List.map_nil])
theorem frep_GNode_4 (o : Bool) (n : Nat) (v0 : Int) (v1 : ByteArray) (v2 : ByteArray) (v3 : ByteArray) (v4 : List GDecl) (v5 : List GAttr) (v7 : ByteArray) : List.replicate n [T.v (.int .i64 v0), T.v (.string v1), T.v (.string v2), T.v (.string v3), T.sl o (v4.map GDecl.row), T.sl o (v5.map GAttr.row), T.sl o [], T.v (.string v7)] = (List.replicate n (GNode.mk v0 v1 v2 v3 v4 v5 [] v7)).map (GNode.row o) := frep (GNode.row o) n (GNode.mk v0 v1 v2 v3 v4 v5 [] v7) _ (by simp only [GNode.row_eq, List.map_nil])
theorem fset_GNode_5 (o : Bool) (l : List GNode) (i : Nat) (v0 : Int) (v1 : ByteArray) (v2 : ByteArray) (v3 : ByteArray) (v5 : List GAttr) (v7 : ByteArray) : (l.map (GNode.row o)).set i [.v (.int .i64 v0), .v (.string v1), .v (.string v2), .v (.string v3), .sl o [], .sl o (v5.map GAttr.row), .sl o [], .v (.string v7)] = (l.set i (GNode.mk v0 v1 v2 v3 [] v5 [] v7)).map (GNode.row o) := fset (GNode.row o) l i (GNode.mk v0 v1 v2 v3 [] v5 [] v7) _ (by simp only [GNode.row_eq, List.map_nil])
theorem fapp_GNode_5 (o : Bool) (l : List GNode) (rs : Rows) (v0 : Int) (v1 : ByteArray) (v2 : ByteArray) (v3 : ByteArray) (v5 : List GAttr) (v7 : ByteArray) : l.map (GNode.row o) ++ ([.v (.int .i64 v0), .v (.string v1), .v (.string v2), .v (.string v3), .sl o [], .sl o (v5.map GAttr.row), .sl o [], .v (.string v7)] :: rs) = (l ++ [(GNode.mk v0 v1 v2 v3 [] v5 [] v7)]).map (GNode.row o) ++ rs := fapp (GNode.row o) l (GNode.mk v0 v1 v2 v3 [] v5 [] v7) _ rs (by simp only [GNode.row_eq, List.map_nil])
theorem frep_GNode_5 (o : Bool) (n : Nat) (v0 : Int) (v1 : ByteArray) (v2 : ByteArray) (v3 : ByteArray) (v5 : List GAttr) (v7 : ByteArray) : List.replicate n [T.v (.int .i64 v0), T.v (.string v1), T.v (.string v2), T.v (.string v3), T.sl o [], T.sl o (v5.map GAttr.row), T.sl o [], T.v (.string v7)] = (List.replicate n (GNode.mk v0 v1 v2 v3 [] v5 [] v7)).map (GNode.row o) := frep (GNode.row o) n (GNode.mk v0 v1 v2 v3 [] v5 [] v7) _ (by simp only [GNode.row_eq, List.map_nil])
theorem fset_GNode_6 (o : Bool) (l : List GNode) (i : Nat) (v0 : Int) (v1 : ByteArray) (v2 : ByteArray) (v3 : ByteArray) (v4 : List GDecl) (v7 : ByteArray) : (l.map (GNode.row o)).set i [.v (.int .i64 v0), .v (.string v1), .v (.string v2), .v (.string v3), .sl o (v4.map GDecl.row), .sl o [], .sl o [], .v (.string v7)] = (l.set i (GNode.mk v0 v1 v2 v3 v4 [] [] v7)).map (GNode.row o) := fset (GNode.row o) l i (GNode.mk v0 v1 v2 v3 v4 [] [] v7) _ (by simp only [GNode.row_eq, List.map_nil])
theorem fapp_GNode_6 (o : Bool) (l : List GNode) (rs : Rows) (v0 : Int) (v1 : ByteArray) (v2 : ByteArray) (v3 : ByteArray) (v4 : List GDecl) (v7 : ByteArray) : l.map (GNode.row o) ++ ([.v (.int .i64 v0), .v (.string v1), .v (.string v2), .v (.string v3), .sl o (v4.map GDecl.row), .sl o [], .sl o [], .v (.string v7)] :: rs) = (l ++ [(GNode.mk v0 v1 v2 v3 v4 [] [] v7)]).map (GNode.row o) ++ rs := fapp (GNode.row o) l (GNode.mk v0 v1 v2 v3 v4 [] [] v7) _ rs (by simp only [GNode.row_eq, List.map_nil])
theorem frep_GNode_6 (o : Bool) (n : Nat) (v0 : Int) (v1 : ByteArray) (v2 : ByteArray) (v3 : ByteArray) (v4 : List GDecl) (v7 : ByteArray) : List.replicate n [T.v (.int .i64 v0), T.v (.string v1), T.v (.string v2), T.v (.string v3), T.sl o (v4.map GDecl.row), T.sl o [], T.sl o [], T.v (.string v7)] = (List.replicate n (GNode.mk v0 v1 v2 v3 v4 [] [] v7)).map (GNode.row o) := frep (GNode.row o) n (GNode.mk v0 v1 v2 v3 v4 [] [] v7) _ (by simp only [GNode.row_eq, List.map_nil])
theorem fset_GNode_7 (o : Bool) (l : List GNode) (i : Nat) (v0 : Int) (v1 : ByteArray) (v2 : ByteArray) (v3 : ByteArray) (v7 : ByteArray) : (l.map (GNode.row o)).set i [.v (.int .i64 v0), .v (.string v1), .v (.string v2), .v (.string v3), .sl o [], .sl o [], .sl o [], .v (.string v7)] = (l.set i (GNode.mk v0 v1 v2 v3 [] [] [] v7)).map (GNode.row o) := fset (GNode.row o) l i (GNode.mk v0 v1 v2 v3 [] [] [] v7) _ (by simp only [GNode.row_eq, List.map_nil])
theorem fapp_GNode_7 (o : Bool) (l : List GNode) (rs : Rows) (v0 : Int) (v1 : ByteArray) (v2 : ByteArray) (v3 : ByteArray) (v7 : ByteArray) : l.map (GNode.row o) ++ ([.v (.int .i64 v0), .v (.string v1), .v (.string v2), .v (.string v3), .sl o [], .sl o [], .sl o [], .v (.string v7)] :: rs) = (l ++ [(GNode.mk v0 v1 v2 v3 [] [] [] v7)]).map (GNode.row o) ++ rs := fapp (GNode.row o) l (GNode.mk v0 v1 v2 v3 [] [] [] v7) _ rs (by simp only [GNode.row_eq, List.map_nil])
theorem frep_GNode_7 (o : Bool) (n : Nat) (v0 : Int) (v1 : ByteArray) (v2 : ByteArray) (v3 : ByteArray) (v7 : ByteArray) : List.replicate n [T.v (.int .i64 v0), T.v (.string v1), T.v (.string v2), T.v (.string v3), T.sl o [], T.sl o [], T.sl o [], T.v (.string v7)] = (List.replicate n (GNode.mk v0 v1 v2 v3 [] [] [] v7)).map (GNode.row o) := frep (GNode.row o) n (GNode.mk v0 v1 v2 v3 [] [] [] v7) _ (by simp only [GNode.row_eq, List.map_nil])
theorem eta_GNode (x : GNode) : GNode.mk x.Kind x.Pre x.Local x.Uri x.Decls x.Attrs x.Kids x.Text = x := by cases x; rfl
structure GArr2Int where
 xa0 : Int
 xa1 : Int
def GArr2Int.row (x : GArr2Int) : List T := [.v (.int .i64 x.xa0), .v (.int .i64 x.xa1)]
theorem GArr2Int.row_eq (x : GArr2Int) : GArr2Int.row x = [.v (.int .i64 x.xa0), .v (.int .i64 x.xa1)] := rfl
theorem frz_GArr2Int (l : List GArr2Int) : frzRs (l.map GArr2Int.row) = l.map GArr2Int.row := frz_map _ _ (fun x => by simp only [GArr2Int.row, frzR, frz, frz_rI, frz_rK, frz_rS, frz_rB, frz_rLI]) l
theorem own_GArr2Int (l : List GArr2Int) : allOwnRs (l.map GArr2Int.row) = true := own_map _ (fun x => by simp only [GArr2Int.row, allOwnR, allOwn, own_rI, own_rK, own_rS, own_rB, own_rLI, Bool.and_self]) l
theorem all_GArr2Int (l : List GArr2Int) : ((l.map GArr2Int.row).all fun r => r.length == 2) = true := all_rows _ _ (fun x => by rfl) l
theorem len_GArr2Int (l l' : List GArr2Int) : ((l.map GArr2Int.row).map (·.length) = (l'.map GArr2Int.row).map (·.length)) = ((if l.length = l'.length then some () else none) = some ()) := lens_eq GArr2Int.row 2 (fun x => by rfl) l l'
theorem fset_GArr2Int_0 (l : List GArr2Int) (i : Nat) (v0 : Int) (v1 : Int) : (l.map GArr2Int.row).set i [.v (.int .i64 v0), .v (.int .i64 v1)] = (l.set i (GArr2Int.mk v0 v1)).map GArr2Int.row := fset GArr2Int.row l i (GArr2Int.mk v0 v1) _ (by simp only [GArr2Int.row_eq])
theorem fapp_GArr2Int_0 (l : List GArr2Int) (rs : Rows) (v0 : Int) (v1 : Int) : l.map GArr2Int.row ++ ([.v (.int .i64 v0), .v (.int .i64 v1)] :: rs) = (l ++ [(GArr2Int.mk v0 v1)]).map GArr2Int.row ++ rs := fapp GArr2Int.row l (GArr2Int.mk v0 v1) _ rs (by simp only [GArr2Int.row_eq])
theorem frep_GArr2Int_0 (n : Nat) (v0 : Int) (v1 : Int) : List.replicate n [T.v (.int .i64 v0), T.v (.int .i64 v1)] = (List.replicate n (GArr2Int.mk v0 v1)).map GArr2Int.row := frep GArr2Int.row n (GArr2Int.mk v0 v1) _ (by simp only [GArr2Int.row_eq])
theorem eta_GArr2Int (x : GArr2Int) : GArr2Int.mk x.xa0 x.xa1 = x := by cases x; rfl
def RS := And.intro (@GDecl.row_eq) <| And.intro (@fset_GDecl_0) <| And.intro (@fapp_GDecl_0) <| And.intro (@frep_GDecl_0) <| And.intro (@eta_GDecl) <| And.intro (@frz_GDecl) <| And.intro (@own_GDecl) <| And.intro (@all_GDecl) <| And.intro (@len_GDecl) <| And.intro (@GAttr.row_eq) <| And.intro (@fset_GAttr_0) <| And.intro (@fapp_GAttr_0) <| And.intro (@frep_GAttr_0) <| And.intro (@eta_GAttr) <| And.intro (@frz_GAttr) <| And.intro (@own_GAttr) <| And.intro (@all_GAttr) <| And.intro (@len_GAttr) <| And.intro (@GNode.row_eq) <| And.intro (@fset_GNode_0) <| And.intro (@fapp_GNode_0) <| And.intro (@frep_GNode_0) <| And.intro (@fset_GNode_1) <| And.intro (@fapp_GNode_1) <| And.intro (@frep_GNode_1) <| And.intro (@fset_GNode_2) <| And.intro (@fapp_GNode_2) <| And.intro (@frep_GNode_2) <| And.intro (@fset_GNode_3) <| And.intro (@fapp_GNode_3) <| And.intro (@frep_GNode_3) <| And.intro (@fset_GNode_4) <| And.intro (@fapp_GNode_4) <| And.intro (@frep_GNode_4) <| And.intro (@fset_GNode_5) <| And.intro (@fapp_GNode_5) <| And.intro (@frep_GNode_5) <| And.intro (@fset_GNode_6) <| And.intro (@fapp_GNode_6) <| And.intro (@frep_GNode_6) <| And.intro (@fset_GNode_7) <| And.intro (@fapp_GNode_7) <| And.intro (@frep_GNode_7) <| And.intro (@eta_GNode) <| And.intro (@frz_GNode) <| And.intro (@own_GNode) <| And.intro (@all_GNode) <| And.intro (@len_GNode) <| And.intro (@GArr2Int.row_eq) <| And.intro (@fset_GArr2Int_0) <| And.intro (@fapp_GArr2Int_0) <| And.intro (@frep_GArr2Int_0) <| And.intro (@eta_GArr2Int) <| And.intro (@frz_GArr2Int) <| And.intro (@own_GArr2Int) <| And.intro (@all_GArr2Int) <| (@len_GArr2Int)
end TT
