import Derived.Test.YtaeegkjcjlnanaaGreatDoorTH4
import Derived.Test.YtaeegkjcjlnanaaGreatDoorTHX4
set_option maxHeartbeats 2000000
set_option linter.unusedVariables false
set_option linter.unusedSimpArgs false
set_option linter.defProp false
set_option maxRecDepth 100000
namespace TT
open Go
structure A1 where
 Pre : ByteArray
 Uri : ByteArray
def A1.row (x : A1) : List T := [.v (.string x.Pre), .v (.string x.Uri)]
theorem A1.row_eq (x : A1) : A1.row x = [.v (.string x.Pre), .v (.string x.Uri)] := rfl
theorem VO (l : List A1) : AX (l.map A1.row) = l.map A1.row := IZ _ _ (fun x => by simp only [A1.row, Fz, frz, QO, TQ, TR, TS, PO]) l
theorem VP (l : List A1) : BF (l.map A1.row) = true := Ia _ (fun x => by simp only [A1.row, DO, allOwn, QP, TU, TV, TW, PP, Bool.and_self]) l
theorem nW (l : List A1) : ((l.map A1.row).all fun r => r.length == 2) = true := G4 _ _ (fun x => by rfl) l
theorem nX (l l' : List A1) : ((l.map A1.row).map (·.length) = (l'.map A1.row).map (·.length)) = ((if l.length = l'.length then some () else none) = some ()) := MO A1.row 2 (fun x => by rfl) l l'
theorem eI (l : List A1) (i : Nat) (v0 : ByteArray) (v1 : ByteArray) : (l.map A1.row).set i [.v (.string v0), .v (.string v1)] = (l.set i (A1.mk v0 v1)).map A1.row := Q8 A1.row l i (A1.mk v0 v1) _ (by simp only [A1.row_eq])
theorem eJ (l : List A1) (rs : Rows) (v0 : ByteArray) (v1 : ByteArray) : l.map A1.row ++ ([.v (.string v0), .v (.string v1)] :: rs) = (l ++ [(A1.mk v0 v1)]).map A1.row ++ rs := QQ A1.row l (A1.mk v0 v1) _ rs (by simp only [A1.row_eq])
theorem eK (n : Nat) (v0 : ByteArray) (v1 : ByteArray) : List.replicate n [T.v (.string v0), T.v (.string v1)] = (List.replicate n (A1.mk v0 v1)).map A1.row := TX A1.row n (A1.mk v0 v1) _ (by simp only [A1.row_eq])
theorem nY (x : A1) : A1.mk x.Pre x.Uri = x := by cases x; rfl
structure A3 where
 Pre : ByteArray
 Local : ByteArray
 Uri : ByteArray
 Val : ByteArray
def A3.row (x : A3) : List T := [.v (.string x.Pre), .v (.string x.Local), .v (.string x.Uri), .v (.string x.Val)]
theorem A3.row_eq (x : A3) : A3.row x = [.v (.string x.Pre), .v (.string x.Local), .v (.string x.Uri), .v (.string x.Val)] := rfl
theorem VQ (l : List A3) : AX (l.map A3.row) = l.map A3.row := IZ _ _ (fun x => by simp only [A3.row, Fz, frz, QO, TQ, TR, TS, PO]) l
theorem VR (l : List A3) : BF (l.map A3.row) = true := Ia _ (fun x => by simp only [A3.row, DO, allOwn, QP, TU, TV, TW, PP, Bool.and_self]) l
theorem nZ (l : List A3) : ((l.map A3.row).all fun r => r.length == 4) = true := G4 _ _ (fun x => by rfl) l
theorem nc (l l' : List A3) : ((l.map A3.row).map (·.length) = (l'.map A3.row).map (·.length)) = ((if l.length = l'.length then some () else none) = some ()) := MO A3.row 4 (fun x => by rfl) l l'
theorem eL (l : List A3) (i : Nat) (v0 : ByteArray) (v1 : ByteArray) (v2 : ByteArray) (v3 : ByteArray) : (l.map A3.row).set i [.v (.string v0), .v (.string v1), .v (.string v2), .v (.string v3)] = (l.set i (A3.mk v0 v1 v2 v3)).map A3.row := Q8 A3.row l i (A3.mk v0 v1 v2 v3) _ (by simp only [A3.row_eq])
theorem eM (l : List A3) (rs : Rows) (v0 : ByteArray) (v1 : ByteArray) (v2 : ByteArray) (v3 : ByteArray) : l.map A3.row ++ ([.v (.string v0), .v (.string v1), .v (.string v2), .v (.string v3)] :: rs) = (l ++ [(A3.mk v0 v1 v2 v3)]).map A3.row ++ rs := QQ A3.row l (A3.mk v0 v1 v2 v3) _ rs (by simp only [A3.row_eq])
theorem eN (n : Nat) (v0 : ByteArray) (v1 : ByteArray) (v2 : ByteArray) (v3 : ByteArray) : List.replicate n [T.v (.string v0), T.v (.string v1), T.v (.string v2), T.v (.string v3)] = (List.replicate n (A3.mk v0 v1 v2 v3)).map A3.row := TX A3.row n (A3.mk v0 v1 v2 v3) _ (by simp only [A3.row_eq])
theorem nd (x : A3) : A3.mk x.Pre x.Local x.Uri x.Val = x := by cases x; rfl
structure A0 where
 Kind : Int
 Pre : ByteArray
 Local : ByteArray
 Uri : ByteArray
 Decls : List A1
 Attrs : List A3
 Kids : List A0
 Text : ByteArray
mutual
def A0.row (o : Bool) : A0 → List T
 | ⟨v0, v1, v2, v3, v4, v5, v6, v7⟩ => [.v (.int .i64 v0), .v (.string v1), .v (.string v2), .v (.string v3), .sl o (v4.map A1.row), .sl o (v5.map A3.row), .sl o (A0.rows o v6), .v (.string v7)]
def A0.rows (o : Bool) : List A0 → Rows
 | [] => []
 | x :: xs => A0.row o x :: A0.rows o xs
end
theorem A0.rows_eq (o : Bool) (l : List A0) : A0.rows o l = l.map (A0.row o) := by
 induction l with
 | nil => rfl
 | cons x l ih => simp only [A0.rows, List.map_cons, ih]
theorem A0.row_eq (o : Bool) (x : A0) : A0.row o x = [.v (.int .i64 x.Kind), .v (.string x.Pre), .v (.string x.Local), .v (.string x.Uri), .sl o (x.Decls.map A1.row), .sl o (x.Attrs.map A3.row), .sl o (x.Kids.map (A0.row o)), .v (.string x.Text)] := by
 cases x; simp only [A0.row, A0.rows_eq]
mutual
theorem A0.frz1 (o : Bool) : ∀ x : A0, Fz (A0.row o x) = A0.row false x
 | ⟨v0, v1, v2, v3, v4, v5, v6, v7⟩ => by simp only [A0.row, Fz, frz, QO, TQ, TR, TS, PO, VQ, VO, A0.frzs]
theorem A0.frzs (o : Bool) : ∀ l : List A0, AX (A0.rows o l) = A0.rows false l
 | [] => rfl
 | x :: l => by simp only [A0.rows, AX, A0.frz1, A0.frzs]
end
mutual
theorem A0.own1 : ∀ x : A0, DO (A0.row true x) = true
 | ⟨v0, v1, v2, v3, v4, v5, v6, v7⟩ => by simp only [A0.row, DO, allOwn, QP, TU, TV, TW, PP, VR, VP, A0.owns, Bool.and_self]
theorem A0.owns : ∀ l : List A0, BF (A0.rows true l) = true
 | [] => rfl
 | x :: l => by simp only [A0.rows, BF, A0.own1, A0.owns, Bool.and_self]
end
theorem cZ (o : Bool) (l : List A0) : AX (l.map (A0.row o)) = l.map (A0.row false) := IZ _ _ (A0.frz1 o) l
theorem cd (l : List A0) : BF (l.map (A0.row true)) = true := Ia _ A0.own1 l
theorem nf (o : Bool) (l : List A0) : ((l.map (A0.row o)).all fun r => r.length == 8) = true := G4 _ _ (fun x => by cases x; rfl) l
theorem ng (o : Bool) (l l' : List A0) : ((l.map (A0.row o)).map (·.length) = (l'.map (A0.row o)).map (·.length)) = ((if l.length = l'.length then some () else none) = some ()) := MO (A0.row o) 8 (fun x => by cases x; rfl) l l'
theorem eO (o : Bool) (l : List A0) (i : Nat) (v0 : Int) (v1 : ByteArray) (v2 : ByteArray) (v3 : ByteArray) (v4 : List A1) (v5 : List A3) (v6 : List A0) (v7 : ByteArray) : (l.map (A0.row o)).set i [.v (.int .i64 v0), .v (.string v1), .v (.string v2), .v (.string v3), .sl o (v4.map A1.row), .sl o (v5.map A3.row), .sl o (v6.map (A0.row o)), .v (.string v7)] = (l.set i (A0.mk v0 v1 v2 v3 v4 v5 v6 v7)).map (A0.row o) := Q8 (A0.row o) l i (A0.mk v0 v1 v2 v3 v4 v5 v6 v7) _ (by simp only [A0.row_eq])
theorem eP (o : Bool) (l : List A0) (rs : Rows) (v0 : Int) (v1 : ByteArray) (v2 : ByteArray) (v3 : ByteArray) (v4 : List A1) (v5 : List A3) (v6 : List A0) (v7 : ByteArray) : l.map (A0.row o) ++ ([.v (.int .i64 v0), .v (.string v1), .v (.string v2), .v (.string v3), .sl o (v4.map A1.row), .sl o (v5.map A3.row), .sl o (v6.map (A0.row o)), .v (.string v7)] :: rs) = (l ++ [(A0.mk v0 v1 v2 v3 v4 v5 v6 v7)]).map (A0.row o) ++ rs := QQ (A0.row o) l (A0.mk v0 v1 v2 v3 v4 v5 v6 v7) _ rs (by simp only [A0.row_eq])
theorem eQ (o : Bool) (n : Nat) (v0 : Int) (v1 : ByteArray) (v2 : ByteArray) (v3 : ByteArray) (v4 : List A1) (v5 : List A3) (v6 : List A0) (v7 : ByteArray) : List.replicate n [T.v (.int .i64 v0), T.v (.string v1), T.v (.string v2), T.v (.string v3), T.sl o (v4.map A1.row), T.sl o (v5.map A3.row), T.sl o (v6.map (A0.row o)), T.v (.string v7)] = (List.replicate n (A0.mk v0 v1 v2 v3 v4 v5 v6 v7)).map (A0.row o) := TX (A0.row o) n (A0.mk v0 v1 v2 v3 v4 v5 v6 v7) _ (by simp only [A0.row_eq])
theorem eR (o : Bool) (l : List A0) (i : Nat) (v0 : Int) (v1 : ByteArray) (v2 : ByteArray) (v3 : ByteArray) (v5 : List A3) (v6 : List A0) (v7 : ByteArray) : (l.map (A0.row o)).set i [.v (.int .i64 v0), .v (.string v1), .v (.string v2), .v (.string v3), .sl o [], .sl o (v5.map A3.row), .sl o (v6.map (A0.row o)), .v (.string v7)] = (l.set i (A0.mk v0 v1 v2 v3 [] v5 v6 v7)).map (A0.row o) := Q8 (A0.row o) l i (A0.mk v0 v1 v2 v3 [] v5 v6 v7) _ (by simp only [A0.row_eq, List.map_nil])
theorem eS (o : Bool) (l : List A0) (rs : Rows) (v0 : Int) (v1 : ByteArray) (v2 : ByteArray) (v3 : ByteArray) (v5 : List A3) (v6 : List A0) (v7 : ByteArray) : l.map (A0.row o) ++ ([.v (.int .i64 v0), .v (.string v1), .v (.string v2), .v (.string v3), .sl o [], .sl o (v5.map A3.row), .sl o (v6.map (A0.row o)), .v (.string v7)] :: rs) = (l ++ [(A0.mk v0 v1 v2 v3 [] v5 v6 v7)]).map (A0.row o) ++ rs := QQ (A0.row o) l (A0.mk v0 v1 v2 v3 [] v5 v6 v7) _ rs (by simp only [A0.row_eq, List.map_nil])
theorem eT (o : Bool) (n : Nat) (v0 : Int) (v1 : ByteArray) (v2 : ByteArray) (v3 : ByteArray) (v5 : List A3) (v6 : List A0) (v7 : ByteArray) : List.replicate n [T.v (.int .i64 v0), T.v (.string v1), T.v (.string v2), T.v (.string v3), T.sl o [], T.sl o (v5.map A3.row), T.sl o (v6.map (A0.row o)), T.v (.string v7)] = (List.replicate n (A0.mk v0 v1 v2 v3 [] v5 v6 v7)).map (A0.row o) := TX (A0.row o) n (A0.mk v0 v1 v2 v3 [] v5 v6 v7) _ (by simp only [A0.row_eq, List.map_nil])
theorem eU (o : Bool) (l : List A0) (i : Nat) (v0 : Int) (v1 : ByteArray) (v2 : ByteArray) (v3 : ByteArray) (v4 : List A1) (v6 : List A0) (v7 : ByteArray) : (l.map (A0.row o)).set i [.v (.int .i64 v0), .v (.string v1), .v (.string v2), .v (.string v3), .sl o (v4.map A1.row), .sl o [], .sl o (v6.map (A0.row o)), .v (.string v7)] = (l.set i (A0.mk v0 v1 v2 v3 v4 [] v6 v7)).map (A0.row o) := Q8 (A0.row o) l i (A0.mk v0 v1 v2 v3 v4 [] v6 v7) _ (by simp only [A0.row_eq, List.map_nil])
theorem eV (o : Bool) (l : List A0) (rs : Rows) (v0 : Int) (v1 : ByteArray) (v2 : ByteArray) (v3 : ByteArray) (v4 : List A1) (v6 : List A0) (v7 : ByteArray) : l.map (A0.row o) ++ ([.v (.int .i64 v0), .v (.string v1), .v (.string v2), .v (.string v3), .sl o (v4.map A1.row), .sl o [], .sl o (v6.map (A0.row o)), .v (.string v7)] :: rs) = (l ++ [(A0.mk v0 v1 v2 v3 v4 [] v6 v7)]).map (A0.row o) ++ rs := QQ (A0.row o) l (A0.mk v0 v1 v2 v3 v4 [] v6 v7) _ rs (by simp only [A0.row_eq, List.map_nil])
theorem eW (o : Bool) (n : Nat) (v0 : Int) (v1 : ByteArray) (v2 : ByteArray) (v3 : ByteArray) (v4 : List A1) (v6 : List A0) (v7 : ByteArray) : List.replicate n [T.v (.int .i64 v0), T.v (.string v1), T.v (.string v2), T.v (.string v3), T.sl o (v4.map A1.row), T.sl o [], T.sl o (v6.map (A0.row o)), T.v (.string v7)] = (List.replicate n (A0.mk v0 v1 v2 v3 v4 [] v6 v7)).map (A0.row o) := TX (A0.row o) n (A0.mk v0 v1 v2 v3 v4 [] v6 v7) _ (by simp only [A0.row_eq, List.map_nil])
theorem eX (o : Bool) (l : List A0) (i : Nat) (v0 : Int) (v1 : ByteArray) (v2 : ByteArray) (v3 : ByteArray) (v6 : List A0) (v7 : ByteArray) : (l.map (A0.row o)).set i [.v (.int .i64 v0), .v (.string v1), .v (.string v2), .v (.string v3), .sl o [], .sl o [], .sl o (v6.map (A0.row o)), .v (.string v7)] = (l.set i (A0.mk v0 v1 v2 v3 [] [] v6 v7)).map (A0.row o) := Q8 (A0.row o) l i (A0.mk v0 v1 v2 v3 [] [] v6 v7) _ (by simp only [A0.row_eq, List.map_nil])
theorem eY (o : Bool) (l : List A0) (rs : Rows) (v0 : Int) (v1 : ByteArray) (v2 : ByteArray) (v3 : ByteArray) (v6 : List A0) (v7 : ByteArray) : l.map (A0.row o) ++ ([.v (.int .i64 v0), .v (.string v1), .v (.string v2), .v (.string v3), .sl o [], .sl o [], .sl o (v6.map (A0.row o)), .v (.string v7)] :: rs) = (l ++ [(A0.mk v0 v1 v2 v3 [] [] v6 v7)]).map (A0.row o) ++ rs := QQ (A0.row o) l (A0.mk v0 v1 v2 v3 [] [] v6 v7) _ rs (by simp only [A0.row_eq, List.map_nil])
theorem eZ (o : Bool) (n : Nat) (v0 : Int) (v1 : ByteArray) (v2 : ByteArray) (v3 : ByteArray) (v6 : List A0) (v7 : ByteArray) : List.replicate n [T.v (.int .i64 v0), T.v (.string v1), T.v (.string v2), T.v (.string v3), T.sl o [], T.sl o [], T.sl o (v6.map (A0.row o)), T.v (.string v7)] = (List.replicate n (A0.mk v0 v1 v2 v3 [] [] v6 v7)).map (A0.row o) := TX (A0.row o) n (A0.mk v0 v1 v2 v3 [] [] v6 v7) _ (by simp only [A0.row_eq, List.map_nil])
theorem ef (o : Bool) (l : List A0) (i : Nat) (v0 : Int) (v1 : ByteArray) (v2 : ByteArray) (v3 : ByteArray) (v4 : List A1) (v5 : List A3) (v7 : ByteArray) : (l.map (A0.row o)).set i [.v (.int .i64 v0), .v (.string v1), .v (.string v2), .v (.string v3), .sl o (v4.map A1.row), .sl o (v5.map A3.row), .sl o [], .v (.string v7)] = (l.set i (A0.mk v0 v1 v2 v3 v4 v5 [] v7)).map (A0.row o) := Q8 (A0.row o) l i (A0.mk v0 v1 v2 v3 v4 v5 [] v7) _ (by simp only [A0.row_eq, List.map_nil])
theorem eh (o : Bool) (l : List A0) (rs : Rows) (v0 : Int) (v1 : ByteArray) (v2 : ByteArray) (v3 : ByteArray) (v4 : List A1) (v5 : List A3) (v7 : ByteArray) : l.map (A0.row o) ++ ([.v (.int .i64 v0), .v (.string v1), .v (.string v2), .v (.string v3), .sl o (v4.map A1.row), .sl o (v5.map A3.row), .sl o [], .v (.string v7)] :: rs) = (l ++ [(A0.mk v0 v1 v2 v3 v4 v5 [] v7)]).map (A0.row o) ++ rs := QQ (A0.row o) l (A0.mk v0 v1 v2 v3 v4 v5 [] v7) _ rs (by simp only [A0.row_eq, List.map_nil])
theorem el (o : Bool) (n : Nat) (v0 : Int) (v1 : ByteArray) (v2 : ByteArray) (v3 : ByteArray) (v4 : List A1) (v5 : List A3) (v7 : ByteArray) : List.replicate n [T.v (.int .i64 v0), T.v (.string v1), T.v (.string v2), T.v (.string v3), T.sl o (v4.map A1.row), T.sl o (v5.map A3.row), T.sl o [], T.v (.string v7)] = (List.replicate n (A0.mk v0 v1 v2 v3 v4 v5 [] v7)).map (A0.row o) := TX (A0.row o) n (A0.mk v0 v1 v2 v3 v4 v5 [] v7) _ (by simp only [A0.row_eq, List.map_nil])
theorem eo (o : Bool) (l : List A0) (i : Nat) (v0 : Int) (v1 : ByteArray) (v2 : ByteArray) (v3 : ByteArray) (v5 : List A3) (v7 : ByteArray) : (l.map (A0.row o)).set i [.v (.int .i64 v0), .v (.string v1), .v (.string v2), .v (.string v3), .sl o [], .sl o (v5.map A3.row), .sl o [], .v (.string v7)] = (l.set i (A0.mk v0 v1 v2 v3 [] v5 [] v7)).map (A0.row o) := Q8 (A0.row o) l i (A0.mk v0 v1 v2 v3 [] v5 [] v7) _ (by simp only [A0.row_eq, List.map_nil])
theorem ep (o : Bool) (l : List A0) (rs : Rows) (v0 : Int) (v1 : ByteArray) (v2 : ByteArray) (v3 : ByteArray) (v5 : List A3) (v7 : ByteArray) : l.map (A0.row o) ++ ([.v (.int .i64 v0), .v (.string v1), .v (.string v2), .v (.string v3), .sl o [], .sl o (v5.map A3.row), .sl o [], .v (.string v7)] :: rs) = (l ++ [(A0.mk v0 v1 v2 v3 [] v5 [] v7)]).map (A0.row o) ++ rs := QQ (A0.row o) l (A0.mk v0 v1 v2 v3 [] v5 [] v7) _ rs (by simp only [A0.row_eq, List.map_nil])
theorem eq (o : Bool) (n : Nat) (v0 : Int) (v1 : ByteArray) (v2 : ByteArray) (v3 : ByteArray) (v5 : List A3) (v7 : ByteArray) : List.replicate n [T.v (.int .i64 v0), T.v (.string v1), T.v (.string v2), T.v (.string v3), T.sl o [], T.sl o (v5.map A3.row), T.sl o [], T.v (.string v7)] = (List.replicate n (A0.mk v0 v1 v2 v3 [] v5 [] v7)).map (A0.row o) := TX (A0.row o) n (A0.mk v0 v1 v2 v3 [] v5 [] v7) _ (by simp only [A0.row_eq, List.map_nil])
theorem er (o : Bool) (l : List A0) (i : Nat) (v0 : Int) (v1 : ByteArray) (v2 : ByteArray) (v3 : ByteArray) (v4 : List A1) (v7 : ByteArray) : (l.map (A0.row o)).set i [.v (.int .i64 v0), .v (.string v1), .v (.string v2), .v (.string v3), .sl o (v4.map A1.row), .sl o [], .sl o [], .v (.string v7)] = (l.set i (A0.mk v0 v1 v2 v3 v4 [] [] v7)).map (A0.row o) := Q8 (A0.row o) l i (A0.mk v0 v1 v2 v3 v4 [] [] v7) _ (by simp only [A0.row_eq, List.map_nil])
theorem et (o : Bool) (l : List A0) (rs : Rows) (v0 : Int) (v1 : ByteArray) (v2 : ByteArray) (v3 : ByteArray) (v4 : List A1) (v7 : ByteArray) : l.map (A0.row o) ++ ([.v (.int .i64 v0), .v (.string v1), .v (.string v2), .v (.string v3), .sl o (v4.map A1.row), .sl o [], .sl o [], .v (.string v7)] :: rs) = (l ++ [(A0.mk v0 v1 v2 v3 v4 [] [] v7)]).map (A0.row o) ++ rs := QQ (A0.row o) l (A0.mk v0 v1 v2 v3 v4 [] [] v7) _ rs (by simp only [A0.row_eq, List.map_nil])
theorem eu (o : Bool) (n : Nat) (v0 : Int) (v1 : ByteArray) (v2 : ByteArray) (v3 : ByteArray) (v4 : List A1) (v7 : ByteArray) : List.replicate n [T.v (.int .i64 v0), T.v (.string v1), T.v (.string v2), T.v (.string v3), T.sl o (v4.map A1.row), T.sl o [], T.sl o [], T.v (.string v7)] = (List.replicate n (A0.mk v0 v1 v2 v3 v4 [] [] v7)).map (A0.row o) := TX (A0.row o) n (A0.mk v0 v1 v2 v3 v4 [] [] v7) _ (by simp only [A0.row_eq, List.map_nil])
theorem ew (o : Bool) (l : List A0) (i : Nat) (v0 : Int) (v1 : ByteArray) (v2 : ByteArray) (v3 : ByteArray) (v7 : ByteArray) : (l.map (A0.row o)).set i [.v (.int .i64 v0), .v (.string v1), .v (.string v2), .v (.string v3), .sl o [], .sl o [], .sl o [], .v (.string v7)] = (l.set i (A0.mk v0 v1 v2 v3 [] [] [] v7)).map (A0.row o) := Q8 (A0.row o) l i (A0.mk v0 v1 v2 v3 [] [] [] v7) _ (by simp only [A0.row_eq, List.map_nil])
theorem ez (o : Bool) (l : List A0) (rs : Rows) (v0 : Int) (v1 : ByteArray) (v2 : ByteArray) (v3 : ByteArray) (v7 : ByteArray) : l.map (A0.row o) ++ ([.v (.int .i64 v0), .v (.string v1), .v (.string v2), .v (.string v3), .sl o [], .sl o [], .sl o [], .v (.string v7)] :: rs) = (l ++ [(A0.mk v0 v1 v2 v3 [] [] [] v7)]).map (A0.row o) ++ rs := QQ (A0.row o) l (A0.mk v0 v1 v2 v3 [] [] [] v7) _ rs (by simp only [A0.row_eq, List.map_nil])
theorem f8 (o : Bool) (n : Nat) (v0 : Int) (v1 : ByteArray) (v2 : ByteArray) (v3 : ByteArray) (v7 : ByteArray) : List.replicate n [T.v (.int .i64 v0), T.v (.string v1), T.v (.string v2), T.v (.string v3), T.sl o [], T.sl o [], T.sl o [], T.v (.string v7)] = (List.replicate n (A0.mk v0 v1 v2 v3 [] [] [] v7)).map (A0.row o) := TX (A0.row o) n (A0.mk v0 v1 v2 v3 [] [] [] v7) _ (by simp only [A0.row_eq, List.map_nil])
theorem VS (x : A0) : A0.mk x.Kind x.Pre x.Local x.Uri x.Decls x.Attrs x.Kids x.Text = x := by cases x; rfl
structure A2 where
 xb : List Int
 xi : Int
 xh : Int
def A2.row (o : Bool) (x : A2) : List T := [.sl o (x.xb.map (rK .u8)), .v (.int .i64 x.xi), .v (.int .i64 x.xh)]
theorem A2.row_eq (o : Bool) (x : A2) : A2.row o x = [.sl o (x.xb.map (rK .u8)), .v (.int .i64 x.xi), .v (.int .i64 x.xh)] := rfl
theorem kp (o : Bool) (l : List A2) : AX (l.map (A2.row o)) = l.map (A2.row false) := IZ _ _ (fun x => by simp only [A2.row, Fz, frz, QO, TQ, TR, TS, PO]) l
theorem kq (l : List A2) : BF (l.map (A2.row true)) = true := Ia _ (fun x => by simp only [A2.row, DO, allOwn, QP, TU, TV, TW, PP, Bool.and_self]) l
theorem kr (o : Bool) (l : List A2) : ((l.map (A2.row o)).all fun r => r.length == 3) = true := G4 _ _ (fun x => by rfl) l
theorem kt (o : Bool) (l l' : List A2) : ((l.map (A2.row o)).map (·.length) = (l'.map (A2.row o)).map (·.length)) = ((if l.length = l'.length then some () else none) = some ()) := MO (A2.row o) 3 (fun x => by rfl) l l'
theorem ku (x : A2) : A2.mk x.xb x.xi x.xh = x := by cases x; rfl
structure AI where
 Tre : A0
 Path : List Int
def AI.row (o : Bool) (x : AI) : List T := [.v (.int .i64 x.Tre.Kind), .v (.string x.Tre.Pre), .v (.string x.Tre.Local), .v (.string x.Tre.Uri), .sl o (x.Tre.Decls.map A1.row), .sl o (x.Tre.Attrs.map A3.row), .sl o (x.Tre.Kids.map (A0.row o)), .v (.string x.Tre.Text), .sl o (x.Path.map rI)]
theorem AI.row_eq (o : Bool) (x : AI) : AI.row o x = [.v (.int .i64 x.Tre.Kind), .v (.string x.Tre.Pre), .v (.string x.Tre.Local), .v (.string x.Tre.Uri), .sl o (x.Tre.Decls.map A1.row), .sl o (x.Tre.Attrs.map A3.row), .sl o (x.Tre.Kids.map (A0.row o)), .v (.string x.Tre.Text), .sl o (x.Path.map rI)] := rfl
theorem nh (o : Bool) (l : List AI) : AX (l.map (AI.row o)) = l.map (AI.row false) := IZ _ _ (fun x => by simp only [AI.row, Fz, frz, QO, TQ, TR, TS, PO, VQ, VO, cZ]) l
theorem ni (l : List AI) : BF (l.map (AI.row true)) = true := Ia _ (fun x => by simp only [AI.row, DO, allOwn, QP, TU, TV, TW, PP, VR, VP, cd, Bool.and_self]) l
theorem nj (o : Bool) (l : List AI) : ((l.map (AI.row o)).all fun r => r.length == 9) = true := G4 _ _ (fun x => by rfl) l
theorem nk (o : Bool) (l l' : List AI) : ((l.map (AI.row o)).map (·.length) = (l'.map (AI.row o)).map (·.length)) = ((if l.length = l'.length then some () else none) = some ()) := MO (AI.row o) 9 (fun x => by rfl) l l'
theorem nl (x : AI) : AI.mk x.Tre x.Path = x := by cases x; rfl
structure A7 where
 xa0 : Int
 xa1 : Int
def A7.row (x : A7) : List T := [.v (.int .i64 x.xa0), .v (.int .i64 x.xa1)]
theorem A7.row_eq (x : A7) : A7.row x = [.v (.int .i64 x.xa0), .v (.int .i64 x.xa1)] := rfl
theorem f9 (l : List A7) : AX (l.map A7.row) = l.map A7.row := IZ _ _ (fun x => by simp only [A7.row, Fz, frz, QO, TQ, TR, TS, PO]) l
theorem fA (l : List A7) : BF (l.map A7.row) = true := Ia _ (fun x => by simp only [A7.row, DO, allOwn, QP, TU, TV, TW, PP, Bool.and_self]) l
theorem fB (l : List A7) : ((l.map A7.row).all fun r => r.length == 2) = true := G4 _ _ (fun x => by rfl) l
theorem fC (l l' : List A7) : ((l.map A7.row).map (·.length) = (l'.map A7.row).map (·.length)) = ((if l.length = l'.length then some () else none) = some ()) := MO A7.row 2 (fun x => by rfl) l l'
theorem X8 (l : List A7) (i : Nat) (v0 : Int) (v1 : Int) : (l.map A7.row).set i [.v (.int .i64 v0), .v (.int .i64 v1)] = (l.set i (A7.mk v0 v1)).map A7.row := Q8 A7.row l i (A7.mk v0 v1) _ (by simp only [A7.row_eq])
theorem X9 (l : List A7) (rs : Rows) (v0 : Int) (v1 : Int) : l.map A7.row ++ ([.v (.int .i64 v0), .v (.int .i64 v1)] :: rs) = (l ++ [(A7.mk v0 v1)]).map A7.row ++ rs := QQ A7.row l (A7.mk v0 v1) _ rs (by simp only [A7.row_eq])
theorem XA (n : Nat) (v0 : Int) (v1 : Int) : List.replicate n [T.v (.int .i64 v0), T.v (.int .i64 v1)] = (List.replicate n (A7.mk v0 v1)).map A7.row := TX A7.row n (A7.mk v0 v1) _ (by simp only [A7.row_eq])
theorem fD (x : A7) : A7.mk x.xa0 x.xa1 = x := by cases x; rfl
def RS := And.intro (@A1.row_eq) <| And.intro (@eI) <| And.intro (@eJ) <| And.intro (@eK) <| And.intro (@nY) <| And.intro (@VO) <| And.intro (@VP) <| And.intro (@nW) <| And.intro (@nX) <| And.intro (@A3.row_eq) <| And.intro (@eL) <| And.intro (@eM) <| And.intro (@eN) <| And.intro (@nd) <| And.intro (@VQ) <| And.intro (@VR) <| And.intro (@nZ) <| And.intro (@nc) <| And.intro (@A0.row_eq) <| And.intro (@eO) <| And.intro (@eP) <| And.intro (@eQ) <| And.intro (@eR) <| And.intro (@eS) <| And.intro (@eT) <| And.intro (@eU) <| And.intro (@eV) <| And.intro (@eW) <| And.intro (@eX) <| And.intro (@eY) <| And.intro (@eZ) <| And.intro (@ef) <| And.intro (@eh) <| And.intro (@el) <| And.intro (@eo) <| And.intro (@ep) <| And.intro (@eq) <| And.intro (@er) <| And.intro (@et) <| And.intro (@eu) <| And.intro (@ew) <| And.intro (@ez) <| And.intro (@f8) <| And.intro (@VS) <| And.intro (@cZ) <| And.intro (@cd) <| And.intro (@nf) <| And.intro (@ng) <| And.intro (@A2.row_eq) <| And.intro (@ku) <| And.intro (@kp) <| And.intro (@kq) <| And.intro (@kr) <| And.intro (@kt) <| And.intro (@AI.row_eq) <| And.intro (@nl) <| And.intro (@nh) <| And.intro (@ni) <| And.intro (@nj) <| And.intro (@nk) <| And.intro (@A7.row_eq) <| And.intro (@X8) <| And.intro (@X9) <| And.intro (@XA) <| And.intro (@fD) <| And.intro (@f9) <| And.intro (@fA) <| And.intro (@fB) <| (@fC)
end TT
