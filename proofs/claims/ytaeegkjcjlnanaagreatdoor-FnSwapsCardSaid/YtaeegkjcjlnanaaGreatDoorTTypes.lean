import Derived.Test.YtaeegkjcjlnanaaGreatDoorTH4
import Derived.Test.YtaeegkjcjlnanaaGreatDoorTHX4
set_option maxHeartbeats 2000000
set_option linter.unusedVariables false
set_option linter.unusedSimpArgs false
set_option linter.defProp false
set_option maxRecDepth 100000
namespace TT
open Go
structure A1 where
 Pre : ByteArray
 Uri : ByteArray
def A1.row (x : A1) : List T := [.v (.string x.Pre), .v (.string x.Uri)]
theorem A1.row_eq (x : A1) : A1.row x = [.v (.string x.Pre), .v (.string x.Uri)] := rfl
theorem WG (l : List A1) : AV (l.map A1.row) = l.map A1.row := IZ _ _ (fun x => by simp only [A1.row, GB, frz, Qy, U3, U4, U5, Q3]) l
theorem WH (l : List A1) : BB (l.map A1.row) = true := Ia _ (fun x => by simp only [A1.row, DQ, allOwn, Qz, U6, U7, U8, Q4, Bool.and_self]) l
theorem pE (l : List A1) : ((l.map A1.row).all fun r => r.length == 2) = true := GH _ _ (fun x => by rfl) l
theorem pF (l l' : List A1) : ((l.map A1.row).map (·.length) = (l'.map A1.row).map (·.length)) = ((if l.length = l'.length then some () else none) = some ()) := Mm A1.row 2 (fun x => by rfl) l l'
theorem gB (l : List A1) (i : Nat) (v0 : ByteArray) (v1 : ByteArray) : (l.map A1.row).set i [.v (.string v0), .v (.string v1)] = (l.set i (A1.mk v0 v1)).map A1.row := Qg A1.row l i (A1.mk v0 v1) _ (by simp only [A1.row_eq])
theorem gC (l : List A1) (rs : Rows) (v0 : ByteArray) (v1 : ByteArray) : l.map A1.row ++ ([.v (.string v0), .v (.string v1)] :: rs) = (l ++ [(A1.mk v0 v1)]).map A1.row ++ rs := R0 A1.row l (A1.mk v0 v1) _ rs (by simp only [A1.row_eq])
theorem gD (n : Nat) (v0 : ByteArray) (v1 : ByteArray) : List.replicate n [T.v (.string v0), T.v (.string v1)] = (List.replicate n (A1.mk v0 v1)).map A1.row := U9 A1.row n (A1.mk v0 v1) _ (by simp only [A1.row_eq])
theorem pG (x : A1) : A1.mk x.Pre x.Uri = x := by cases x; rfl
structure A4 where
 Pre : ByteArray
 Local : ByteArray
 Uri : ByteArray
 Val : ByteArray
def A4.row (x : A4) : List T := [.v (.string x.Pre), .v (.string x.Local), .v (.string x.Uri), .v (.string x.Val)]
theorem A4.row_eq (x : A4) : A4.row x = [.v (.string x.Pre), .v (.string x.Local), .v (.string x.Uri), .v (.string x.Val)] := rfl
theorem WI (l : List A4) : AV (l.map A4.row) = l.map A4.row := IZ _ _ (fun x => by simp only [A4.row, GB, frz, Qy, U3, U4, U5, Q3]) l
theorem WJ (l : List A4) : BB (l.map A4.row) = true := Ia _ (fun x => by simp only [A4.row, DQ, allOwn, Qz, U6, U7, U8, Q4, Bool.and_self]) l
theorem pH (l : List A4) : ((l.map A4.row).all fun r => r.length == 4) = true := GH _ _ (fun x => by rfl) l
theorem pI (l l' : List A4) : ((l.map A4.row).map (·.length) = (l'.map A4.row).map (·.length)) = ((if l.length = l'.length then some () else none) = some ()) := Mm A4.row 4 (fun x => by rfl) l l'
theorem gE (l : List A4) (i : Nat) (v0 : ByteArray) (v1 : ByteArray) (v2 : ByteArray) (v3 : ByteArray) : (l.map A4.row).set i [.v (.string v0), .v (.string v1), .v (.string v2), .v (.string v3)] = (l.set i (A4.mk v0 v1 v2 v3)).map A4.row := Qg A4.row l i (A4.mk v0 v1 v2 v3) _ (by simp only [A4.row_eq])
theorem gF (l : List A4) (rs : Rows) (v0 : ByteArray) (v1 : ByteArray) (v2 : ByteArray) (v3 : ByteArray) : l.map A4.row ++ ([.v (.string v0), .v (.string v1), .v (.string v2), .v (.string v3)] :: rs) = (l ++ [(A4.mk v0 v1 v2 v3)]).map A4.row ++ rs := R0 A4.row l (A4.mk v0 v1 v2 v3) _ rs (by simp only [A4.row_eq])
theorem gG (n : Nat) (v0 : ByteArray) (v1 : ByteArray) (v2 : ByteArray) (v3 : ByteArray) : List.replicate n [T.v (.string v0), T.v (.string v1), T.v (.string v2), T.v (.string v3)] = (List.replicate n (A4.mk v0 v1 v2 v3)).map A4.row := U9 A4.row n (A4.mk v0 v1 v2 v3) _ (by simp only [A4.row_eq])
theorem pJ (x : A4) : A4.mk x.Pre x.Local x.Uri x.Val = x := by cases x; rfl
structure A0 where
 Kind : Int
 Pre : ByteArray
 Local : ByteArray
 Uri : ByteArray
 Decls : List A1
 Attrs : List A4
 Kids : List A0
 Text : ByteArray
mutual
def A0.row (o : Bool) : A0 → List T
 | ⟨v0, v1, v2, v3, v4, v5, v6, v7⟩ => [.v (.int .i64 v0), .v (.string v1), .v (.string v2), .v (.string v3), .sl o (v4.map A1.row), .sl o (v5.map A4.row), .sl o (A0.rows o v6), .v (.string v7)]
def A0.rows (o : Bool) : List A0 → Rows
 | [] => []
 | x :: xs => A0.row o x :: A0.rows o xs
end
theorem A0.rows_eq (o : Bool) (l : List A0) : A0.rows o l = l.map (A0.row o) := by
 induction l with
 | nil => rfl
 | cons x l ih => simp only [A0.rows, List.map_cons, ih]
theorem A0.row_eq (o : Bool) (x : A0) : A0.row o x = [.v (.int .i64 x.Kind), .v (.string x.Pre), .v (.string x.Local), .v (.string x.Uri), .sl o (x.Decls.map A1.row), .sl o (x.Attrs.map A4.row), .sl o (x.Kids.map (A0.row o)), .v (.string x.Text)] := by
 cases x; simp only [A0.row, A0.rows_eq]
mutual
theorem A0.frz1 (o : Bool) : ∀ x : A0, GB (A0.row o x) = A0.row false x
 | ⟨v0, v1, v2, v3, v4, v5, v6, v7⟩ => by simp only [A0.row, GB, frz, Qy, U3, U4, U5, Q3, WI, WG, A0.frzs]
theorem A0.frzs (o : Bool) : ∀ l : List A0, AV (A0.rows o l) = A0.rows false l
 | [] => rfl
 | x :: l => by simp only [A0.rows, AV, A0.frz1, A0.frzs]
end
mutual
theorem A0.own1 : ∀ x : A0, DQ (A0.row true x) = true
 | ⟨v0, v1, v2, v3, v4, v5, v6, v7⟩ => by simp only [A0.row, DQ, allOwn, Qz, U6, U7, U8, Q4, WJ, WH, A0.owns, Bool.and_self]
theorem A0.owns : ∀ l : List A0, BB (A0.rows true l) = true
 | [] => rfl
 | x :: l => by simp only [A0.rows, BB, A0.own1, A0.owns, Bool.and_self]
end
theorem eS (o : Bool) (l : List A0) : AV (l.map (A0.row o)) = l.map (A0.row false) := IZ _ _ (A0.frz1 o) l
theorem eT (l : List A0) : BB (l.map (A0.row true)) = true := Ia _ A0.own1 l
theorem pK (o : Bool) (l : List A0) : ((l.map (A0.row o)).all fun r => r.length == 8) = true := GH _ _ (fun x => by cases x; rfl) l
theorem pL (o : Bool) (l l' : List A0) : ((l.map (A0.row o)).map (·.length) = (l'.map (A0.row o)).map (·.length)) = ((if l.length = l'.length then some () else none) = some ()) := Mm (A0.row o) 8 (fun x => by cases x; rfl) l l'
theorem gH (o : Bool) (l : List A0) (i : Nat) (v0 : Int) (v1 : ByteArray) (v2 : ByteArray) (v3 : ByteArray) (v4 : List A1) (v5 : List A4) (v6 : List A0) (v7 : ByteArray) : (l.map (A0.row o)).set i [.v (.int .i64 v0), .v (.string v1), .v (.string v2), .v (.string v3), .sl o (v4.map A1.row), .sl o (v5.map A4.row), .sl o (v6.map (A0.row o)), .v (.string v7)] = (l.set i (A0.mk v0 v1 v2 v3 v4 v5 v6 v7)).map (A0.row o) := Qg (A0.row o) l i (A0.mk v0 v1 v2 v3 v4 v5 v6 v7) _ (by simp only [A0.row_eq])
theorem gI (o : Bool) (l : List A0) (rs : Rows) (v0 : Int) (v1 : ByteArray) (v2 : ByteArray) (v3 : ByteArray) (v4 : List A1) (v5 : List A4) (v6 : List A0) (v7 : ByteArray) : l.map (A0.row o) ++ ([.v (.int .i64 v0), .v (.string v1), .v (.string v2), .v (.string v3), .sl o (v4.map A1.row), .sl o (v5.map A4.row), .sl o (v6.map (A0.row o)), .v (.string v7)] :: rs) = (l ++ [(A0.mk v0 v1 v2 v3 v4 v5 v6 v7)]).map (A0.row o) ++ rs := R0 (A0.row o) l (A0.mk v0 v1 v2 v3 v4 v5 v6 v7) _ rs (by simp only [A0.row_eq])
theorem gJ (o : Bool) (n : Nat) (v0 : Int) (v1 : ByteArray) (v2 : ByteArray) (v3 : ByteArray) (v4 : List A1) (v5 : List A4) (v6 : List A0) (v7 : ByteArray) : List.replicate n [T.v (.int .i64 v0), T.v (.string v1), T.v (.string v2), T.v (.string v3), T.sl o (v4.map A1.row), T.sl o (v5.map A4.row), T.sl o (v6.map (A0.row o)), T.v (.string v7)] = (List.replicate n (A0.mk v0 v1 v2 v3 v4 v5 v6 v7)).map (A0.row o) := U9 (A0.row o) n (A0.mk v0 v1 v2 v3 v4 v5 v6 v7) _ (by simp only [A0.row_eq])
theorem gK (o : Bool) (l : List A0) (i : Nat) (v0 : Int) (v1 : ByteArray) (v2 : ByteArray) (v3 : ByteArray) (v5 : List A4) (v6 : List A0) (v7 : ByteArray) : (l.map (A0.row o)).set i [.v (.int .i64 v0), .v (.string v1), .v (.string v2), .v (.string v3), .sl o [], .sl o (v5.map A4.row), .sl o (v6.map (A0.row o)), .v (.string v7)] = (l.set i (A0.mk v0 v1 v2 v3 [] v5 v6 v7)).map (A0.row o) := Qg (A0.row o) l i (A0.mk v0 v1 v2 v3 [] v5 v6 v7) _ (by simp only [A0.row_eq, List.map_nil])
theorem gL (o : Bool) (l : List A0) (rs : Rows) (v0 : Int) (v1 : ByteArray) (v2 : ByteArray) (v3 : ByteArray) (v5 : List A4) (v6 : List A0) (v7 : ByteArray) : l.map (A0.row o) ++ ([.v (.int .i64 v0), .v (.string v1), .v (.string v2), .v (.string v3), .sl o [], .sl o (v5.map A4.row), .sl o (v6.map (A0.row o)), .v (.string v7)] :: rs) = (l ++ [(A0.mk v0 v1 v2 v3 [] v5 v6 v7)]).map (A0.row o) ++ rs := R0 (A0.row o) l (A0.mk v0 v1 v2 v3 [] v5 v6 v7) _ rs (by simp only [A0.row_eq, List.map_nil])
theorem gM (o : Bool) (n : Nat) (v0 : Int) (v1 : ByteArray) (v2 : ByteArray) (v3 : ByteArray) (v5 : List A4) (v6 : List A0) (v7 : ByteArray) : List.replicate n [T.v (.int .i64 v0), T.v (.string v1), T.v (.string v2), T.v (.string v3), T.sl o [], T.sl o (v5.map A4.row), T.sl o (v6.map (A0.row o)), T.v (.string v7)] = (List.replicate n (A0.mk v0 v1 v2 v3 [] v5 v6 v7)).map (A0.row o) := U9 (A0.row o) n (A0.mk v0 v1 v2 v3 [] v5 v6 v7) _ (by simp only [A0.row_eq, List.map_nil])
theorem gN (o : Bool) (l : List A0) (i : Nat) (v0 : Int) (v1 : ByteArray) (v2 : ByteArray) (v3 : ByteArray) (v4 : List A1) (v6 : List A0) (v7 : ByteArray) : (l.map (A0.row o)).set i [.v (.int .i64 v0), .v (.string v1), .v (.string v2), .v (.string v3), .sl o (v4.map A1.row), .sl o [], .sl o (v6.map (A0.row o)), .v (.string v7)] = (l.set i (A0.mk v0 v1 v2 v3 v4 [] v6 v7)).map (A0.row o) := Qg (A0.row o) l i (A0.mk v0 v1 v2 v3 v4 [] v6 v7) _ (by simp only [A0.row_eq, List.map_nil])
theorem gO (o : Bool) (l : List A0) (rs : Rows) (v0 : Int) (v1 : ByteArray) (v2 : ByteArray) (v3 : ByteArray) (v4 : List A1) (v6 : List A0) (v7 : ByteArray) : l.map (A0.row o) ++ ([.v (.int .i64 v0), .v (.string v1), .v (.string v2), .v (.string v3), .sl o (v4.map A1.row), .sl o [], .sl o (v6.map (A0.row o)), .v (.string v7)] :: rs) = (l ++ [(A0.mk v0 v1 v2 v3 v4 [] v6 v7)]).map (A0.row o) ++ rs := R0 (A0.row o) l (A0.mk v0 v1 v2 v3 v4 [] v6 v7) _ rs (by simp only [A0.row_eq, List.map_nil])
theorem gP (o : Bool) (n : Nat) (v0 : Int) (v1 : ByteArray) (v2 : ByteArray) (v3 : ByteArray) (v4 : List A1) (v6 : List A0) (v7 : ByteArray) : List.replicate n [T.v (.int .i64 v0), T.v (.string v1), T.v (.string v2), T.v (.string v3), T.sl o (v4.map A1.row), T.sl o [], T.sl o (v6.map (A0.row o)), T.v (.string v7)] = (List.replicate n (A0.mk v0 v1 v2 v3 v4 [] v6 v7)).map (A0.row o) := U9 (A0.row o) n (A0.mk v0 v1 v2 v3 v4 [] v6 v7) _ (by simp only [A0.row_eq, List.map_nil])
theorem gQ (o : Bool) (l : List A0) (i : Nat) (v0 : Int) (v1 : ByteArray) (v2 : ByteArray) (v3 : ByteArray) (v6 : List A0) (v7 : ByteArray) : (l.map (A0.row o)).set i [.v (.int .i64 v0), .v (.string v1), .v (.string v2), .v (.string v3), .sl o [], .sl o [], .sl o (v6.map (A0.row o)), .v (.string v7)] = (l.set i (A0.mk v0 v1 v2 v3 [] [] v6 v7)).map (A0.row o) := Qg (A0.row o) l i (A0.mk v0 v1 v2 v3 [] [] v6 v7) _ (by simp only [A0.row_eq, List.map_nil])
theorem gR (o : Bool) (l : List A0) (rs : Rows) (v0 : Int) (v1 : ByteArray) (v2 : ByteArray) (v3 : ByteArray) (v6 : List A0) (v7 : ByteArray) : l.map (A0.row o) ++ ([.v (.int .i64 v0), .v (.string v1), .v (.string v2), .v (.string v3), .sl o [], .sl o [], .sl o (v6.map (A0.row o)), .v (.string v7)] :: rs) = (l ++ [(A0.mk v0 v1 v2 v3 [] [] v6 v7)]).map (A0.row o) ++ rs := R0 (A0.row o) l (A0.mk v0 v1 v2 v3 [] [] v6 v7) _ rs (by simp only [A0.row_eq, List.map_nil])
theorem gS (o : Bool) (n : Nat) (v0 : Int) (v1 : ByteArray) (v2 : ByteArray) (v3 : ByteArray) (v6 : List A0) (v7 : ByteArray) : List.replicate n [T.v (.int .i64 v0), T.v (.string v1), T.v (.string v2), T.v (.string v3), T.sl o [], T.sl o [], T.sl o (v6.map (A0.row o)), T.v (.string v7)] = (List.replicate n (A0.mk v0 v1 v2 v3 [] [] v6 v7)).map (A0.row o) := U9 (A0.row o) n (A0.mk v0 v1 v2 v3 [] [] v6 v7) _ (by simp only [A0.row_eq, List.map_nil])
theorem gT (o : Bool) (l : List A0) (i : Nat) (v0 : Int) (v1 : ByteArray) (v2 : ByteArray) (v3 : ByteArray) (v4 : List A1) (v5 : List A4) (v7 : ByteArray) : (l.map (A0.row o)).set i [.v (.int .i64 v0), .v (.string v1), .v (.string v2), .v (.string v3), .sl o (v4.map A1.row), .sl o (v5.map A4.row), .sl o [], .v (.string v7)] = (l.set i (A0.mk v0 v1 v2 v3 v4 v5 [] v7)).map (A0.row o) := Qg (A0.row o) l i (A0.mk v0 v1 v2 v3 v4 v5 [] v7) _ (by simp only [A0.row_eq, List.map_nil])
theorem gU (o : Bool) (l : List A0) (rs : Rows) (v0 : Int) (v1 : ByteArray) (v2 : ByteArray) (v3 : ByteArray) (v4 : List A1) (v5 : List A4) (v7 : ByteArray) : l.map (A0.row o) ++ ([.v (.int .i64 v0), .v (.string v1), .v (.string v2), .v (.string v3), .sl o (v4.map A1.row), .sl o (v5.map A4.row), .sl o [], .v (.string v7)] :: rs) = (l ++ [(A0.mk v0 v1 v2 v3 v4 v5 [] v7)]).map (A0.row o) ++ rs := R0 (A0.row o) l (A0.mk v0 v1 v2 v3 v4 v5 [] v7) _ rs (by simp only [A0.row_eq, List.map_nil])
theorem gV (o : Bool) (n : Nat) (v0 : Int) (v1 : ByteArray) (v2 : ByteArray) (v3 : ByteArray) (v4 : List A1) (v5 : List A4) (v7 : ByteArray) : List.replicate n [T.v (.int .i64 v0), T.v (.string v1), T.v (.string v2), T.v (.string v3), T.sl o (v4.map A1.row), T.sl o (v5.map A4.row), T.sl o [], T.v (.string v7)] = (List.replicate n (A0.mk v0 v1 v2 v3 v4 v5 [] v7)).map (A0.row o) := U9 (A0.row o) n (A0.mk v0 v1 v2 v3 v4 v5 [] v7) _ (by simp only [A0.row_eq, List.map_nil])
theorem gW (o : Bool) (l : List A0) (i : Nat) (v0 : Int) (v1 : ByteArray) (v2 : ByteArray) (v3 : ByteArray) (v5 : List A4) (v7 : ByteArray) : (l.map (A0.row o)).set i [.v (.int .i64 v0), .v (.string v1), .v (.string v2), .v (.string v3), .sl o [], .sl o (v5.map A4.row), .sl o [], .v (.string v7)] = (l.set i (A0.mk v0 v1 v2 v3 [] v5 [] v7)).map (A0.row o) := Qg (A0.row o) l i (A0.mk v0 v1 v2 v3 [] v5 [] v7) _ (by simp only [A0.row_eq, List.map_nil])
theorem gX (o : Bool) (l : List A0) (rs : Rows) (v0 : Int) (v1 : ByteArray) (v2 : ByteArray) (v3 : ByteArray) (v5 : List A4) (v7 : ByteArray) : l.map (A0.row o) ++ ([.v (.int .i64 v0), .v (.string v1), .v (.string v2), .v (.string v3), .sl o [], .sl o (v5.map A4.row), .sl o [], .v (.string v7)] :: rs) = (l ++ [(A0.mk v0 v1 v2 v3 [] v5 [] v7)]).map (A0.row o) ++ rs := R0 (A0.row o) l (A0.mk v0 v1 v2 v3 [] v5 [] v7) _ rs (by simp only [A0.row_eq, List.map_nil])
theorem gY (o : Bool) (n : Nat) (v0 : Int) (v1 : ByteArray) (v2 : ByteArray) (v3 : ByteArray) (v5 : List A4) (v7 : ByteArray) : List.replicate n [T.v (.int .i64 v0), T.v (.string v1), T.v (.string v2), T.v (.string v3), T.sl o [], T.sl o (v5.map A4.row), T.sl o [], T.v (.string v7)] = (List.replicate n (A0.mk v0 v1 v2 v3 [] v5 [] v7)).map (A0.row o) := U9 (A0.row o) n (A0.mk v0 v1 v2 v3 [] v5 [] v7) _ (by simp only [A0.row_eq, List.map_nil])
theorem gZ (o : Bool) (l : List A0) (i : Nat) (v0 : Int) (v1 : ByteArray) (v2 : ByteArray) (v3 : ByteArray) (v4 : List A1) (v7 : ByteArray) : (l.map (A0.row o)).set i [.v (.int .i64 v0), .v (.string v1), .v (.string v2), .v (.string v3), .sl o (v4.map A1.row), .sl o [], .sl o [], .v (.string v7)] = (l.set i (A0.mk v0 v1 v2 v3 v4 [] [] v7)).map (A0.row o) := Qg (A0.row o) l i (A0.mk v0 v1 v2 v3 v4 [] [] v7) _ (by simp only [A0.row_eq, List.map_nil])
theorem ga (o : Bool) (l : List A0) (rs : Rows) (v0 : Int) (v1 : ByteArray) (v2 : ByteArray) (v3 : ByteArray) (v4 : List A1) (v7 : ByteArray) : l.map (A0.row o) ++ ([.v (.int .i64 v0), .v (.string v1), .v (.string v2), .v (.string v3), .sl o (v4.map A1.row), .sl o [], .sl o [], .v (.string v7)] :: rs) = (l ++ [(A0.mk v0 v1 v2 v3 v4 [] [] v7)]).map (A0.row o) ++ rs := R0 (A0.row o) l (A0.mk v0 v1 v2 v3 v4 [] [] v7) _ rs (by simp only [A0.row_eq, List.map_nil])
theorem gb (o : Bool) (n : Nat) (v0 : Int) (v1 : ByteArray) (v2 : ByteArray) (v3 : ByteArray) (v4 : List A1) (v7 : ByteArray) : List.replicate n [T.v (.int .i64 v0), T.v (.string v1), T.v (.string v2), T.v (.string v3), T.sl o (v4.map A1.row), T.sl o [], T.sl o [], T.v (.string v7)] = (List.replicate n (A0.mk v0 v1 v2 v3 v4 [] [] v7)).map (A0.row o) := U9 (A0.row o) n (A0.mk v0 v1 v2 v3 v4 [] [] v7) _ (by simp only [A0.row_eq, List.map_nil])
theorem gc (o : Bool) (l : List A0) (i : Nat) (v0 : Int) (v1 : ByteArray) (v2 : ByteArray) (v3 : ByteArray) (v7 : ByteArray) : (l.map (A0.row o)).set i [.v (.int .i64 v0), .v (.string v1), .v (.string v2), .v (.string v3), .sl o [], .sl o [], .sl o [], .v (.string v7)] = (l.set i (A0.mk v0 v1 v2 v3 [] [] [] v7)).map (A0.row o) := Qg (A0.row o) l i (A0.mk v0 v1 v2 v3 [] [] [] v7) _ (by simp only [A0.row_eq, List.map_nil])
theorem gh (o : Bool) (l : List A0) (rs : Rows) (v0 : Int) (v1 : ByteArray) (v2 : ByteArray) (v3 : ByteArray) (v7 : ByteArray) : l.map (A0.row o) ++ ([.v (.int .i64 v0), .v (.string v1), .v (.string v2), .v (.string v3), .sl o [], .sl o [], .sl o [], .v (.string v7)] :: rs) = (l ++ [(A0.mk v0 v1 v2 v3 [] [] [] v7)]).map (A0.row o) ++ rs := R0 (A0.row o) l (A0.mk v0 v1 v2 v3 [] [] [] v7) _ rs (by simp only [A0.row_eq, List.map_nil])
theorem gi (o : Bool) (n : Nat) (v0 : Int) (v1 : ByteArray) (v2 : ByteArray) (v3 : ByteArray) (v7 : ByteArray) : List.replicate n [T.v (.int .i64 v0), T.v (.string v1), T.v (.string v2), T.v (.string v3), T.sl o [], T.sl o [], T.sl o [], T.v (.string v7)] = (List.replicate n (A0.mk v0 v1 v2 v3 [] [] [] v7)).map (A0.row o) := U9 (A0.row o) n (A0.mk v0 v1 v2 v3 [] [] [] v7) _ (by simp only [A0.row_eq, List.map_nil])
theorem WK (x : A0) : A0.mk x.Kind x.Pre x.Local x.Uri x.Decls x.Attrs x.Kids x.Text = x := by cases x; rfl
structure AJ where
 Tre : A0
 Path : List Int
def AJ.row (o : Bool) (x : AJ) : List T := [.v (.int .i64 x.Tre.Kind), .v (.string x.Tre.Pre), .v (.string x.Tre.Local), .v (.string x.Tre.Uri), .sl o (x.Tre.Decls.map A1.row), .sl o (x.Tre.Attrs.map A4.row), .sl o (x.Tre.Kids.map (A0.row o)), .v (.string x.Tre.Text), .sl o (x.Path.map rI)]
theorem AJ.row_eq (o : Bool) (x : AJ) : AJ.row o x = [.v (.int .i64 x.Tre.Kind), .v (.string x.Tre.Pre), .v (.string x.Tre.Local), .v (.string x.Tre.Uri), .sl o (x.Tre.Decls.map A1.row), .sl o (x.Tre.Attrs.map A4.row), .sl o (x.Tre.Kids.map (A0.row o)), .v (.string x.Tre.Text), .sl o (x.Path.map rI)] := rfl
theorem pM (o : Bool) (l : List AJ) : AV (l.map (AJ.row o)) = l.map (AJ.row false) := IZ _ _ (fun x => by simp only [AJ.row, GB, frz, Qy, U3, U4, U5, Q3, WI, WG, eS]) l
theorem pN (l : List AJ) : BB (l.map (AJ.row true)) = true := Ia _ (fun x => by simp only [AJ.row, DQ, allOwn, Qz, U6, U7, U8, Q4, WJ, WH, eT, Bool.and_self]) l
theorem pO (o : Bool) (l : List AJ) : ((l.map (AJ.row o)).all fun r => r.length == 9) = true := GH _ _ (fun x => by rfl) l
theorem pP (o : Bool) (l l' : List AJ) : ((l.map (AJ.row o)).map (·.length) = (l'.map (AJ.row o)).map (·.length)) = ((if l.length = l'.length then some () else none) = some ()) := Mm (AJ.row o) 9 (fun x => by rfl) l l'
theorem WL (x : AJ) : AJ.mk x.Tre x.Path = x := by cases x; rfl
structure A2 where
 xb : List Int
 xi : Int
 xh : Int
def A2.row (o : Bool) (x : A2) : List T := [.sl o (x.xb.map (rK .u8)), .v (.int .i64 x.xi), .v (.int .i64 x.xh)]
theorem A2.row_eq (o : Bool) (x : A2) : A2.row o x = [.sl o (x.xb.map (rK .u8)), .v (.int .i64 x.xi), .v (.int .i64 x.xh)] := rfl
theorem mZ (o : Bool) (l : List A2) : AV (l.map (A2.row o)) = l.map (A2.row false) := IZ _ _ (fun x => by simp only [A2.row, GB, frz, Qy, U3, U4, U5, Q3]) l
theorem ma (l : List A2) : BB (l.map (A2.row true)) = true := Ia _ (fun x => by simp only [A2.row, DQ, allOwn, Qz, U6, U7, U8, Q4, Bool.and_self]) l
theorem mc (o : Bool) (l : List A2) : ((l.map (A2.row o)).all fun r => r.length == 3) = true := GH _ _ (fun x => by rfl) l
theorem mf (o : Bool) (l l' : List A2) : ((l.map (A2.row o)).map (·.length) = (l'.map (A2.row o)).map (·.length)) = ((if l.length = l'.length then some () else none) = some ()) := Mm (A2.row o) 3 (fun x => by rfl) l l'
theorem mg (x : A2) : A2.mk x.xb x.xi x.xh = x := by cases x; rfl
structure A7 where
 xa0 : Int
 xa1 : Int
def A7.row (x : A7) : List T := [.v (.int .i64 x.xa0), .v (.int .i64 x.xa1)]
theorem A7.row_eq (x : A7) : A7.row x = [.v (.int .i64 x.xa0), .v (.int .i64 x.xa1)] := rfl
theorem gj (l : List A7) : AV (l.map A7.row) = l.map A7.row := IZ _ _ (fun x => by simp only [A7.row, GB, frz, Qy, U3, U4, U5, Q3]) l
theorem gl (l : List A7) : BB (l.map A7.row) = true := Ia _ (fun x => by simp only [A7.row, DQ, allOwn, Qz, U6, U7, U8, Q4, Bool.and_self]) l
theorem gm (l : List A7) : ((l.map A7.row).all fun r => r.length == 2) = true := GH _ _ (fun x => by rfl) l
theorem gp (l l' : List A7) : ((l.map A7.row).map (·.length) = (l'.map A7.row).map (·.length)) = ((if l.length = l'.length then some () else none) = some ()) := Mm A7.row 2 (fun x => by rfl) l l'
theorem Y6 (l : List A7) (i : Nat) (v0 : Int) (v1 : Int) : (l.map A7.row).set i [.v (.int .i64 v0), .v (.int .i64 v1)] = (l.set i (A7.mk v0 v1)).map A7.row := Qg A7.row l i (A7.mk v0 v1) _ (by simp only [A7.row_eq])
theorem Y7 (l : List A7) (rs : Rows) (v0 : Int) (v1 : Int) : l.map A7.row ++ ([.v (.int .i64 v0), .v (.int .i64 v1)] :: rs) = (l ++ [(A7.mk v0 v1)]).map A7.row ++ rs := R0 A7.row l (A7.mk v0 v1) _ rs (by simp only [A7.row_eq])
theorem Y8 (n : Nat) (v0 : Int) (v1 : Int) : List.replicate n [T.v (.int .i64 v0), T.v (.int .i64 v1)] = (List.replicate n (A7.mk v0 v1)).map A7.row := U9 A7.row n (A7.mk v0 v1) _ (by simp only [A7.row_eq])
theorem gq (x : A7) : A7.mk x.xa0 x.xa1 = x := by cases x; rfl
def RS := And.intro (@A1.row_eq) <| And.intro (@gB) <| And.intro (@gC) <| And.intro (@gD) <| And.intro (@pG) <| And.intro (@WG) <| And.intro (@WH) <| And.intro (@pE) <| And.intro (@pF) <| And.intro (@A4.row_eq) <| And.intro (@gE) <| And.intro (@gF) <| And.intro (@gG) <| And.intro (@pJ) <| And.intro (@WI) <| And.intro (@WJ) <| And.intro (@pH) <| And.intro (@pI) <| And.intro (@A0.row_eq) <| And.intro (@gH) <| And.intro (@gI) <| And.intro (@gJ) <| And.intro (@gK) <| And.intro (@gL) <| And.intro (@gM) <| And.intro (@gN) <| And.intro (@gO) <| And.intro (@gP) <| And.intro (@gQ) <| And.intro (@gR) <| And.intro (@gS) <| And.intro (@gT) <| And.intro (@gU) <| And.intro (@gV) <| And.intro (@gW) <| And.intro (@gX) <| And.intro (@gY) <| And.intro (@gZ) <| And.intro (@ga) <| And.intro (@gb) <| And.intro (@gc) <| And.intro (@gh) <| And.intro (@gi) <| And.intro (@WK) <| And.intro (@eS) <| And.intro (@eT) <| And.intro (@pK) <| And.intro (@pL) <| And.intro (@AJ.row_eq) <| And.intro (@WL) <| And.intro (@pM) <| And.intro (@pN) <| And.intro (@pO) <| And.intro (@pP) <| And.intro (@A2.row_eq) <| And.intro (@mg) <| And.intro (@mZ) <| And.intro (@ma) <| And.intro (@mc) <| And.intro (@mf) <| And.intro (@A7.row_eq) <| And.intro (@Y6) <| And.intro (@Y7) <| And.intro (@Y8) <| And.intro (@gq) <| And.intro (@gj) <| And.intro (@gl) <| And.intro (@gm) <| (@gp)
end TT
