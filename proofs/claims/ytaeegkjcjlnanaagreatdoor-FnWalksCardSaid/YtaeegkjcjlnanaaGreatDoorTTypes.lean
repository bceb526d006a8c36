import Derived.Test.YtaeegkjcjlnanaaGreatDoorTH4
import Derived.Test.YtaeegkjcjlnanaaGreatDoorTHX4
set_option maxHeartbeats 2000000
set_option linter.unusedVariables false
set_option linter.unusedSimpArgs false
set_option linter.defProp false
set_option maxRecDepth 100000
namespace TT
open Go
structure A1 where
 Pre : ByteArray
 Uri : ByteArray
def A1.row (x : A1) : List T := [.v (.string x.Pre), .v (.string x.Uri)]
theorem A1.row_eq (x : A1) : A1.row x = [.v (.string x.Pre), .v (.string x.Uri)] := rfl
theorem Vr (l : List A1) : AU (l.map A1.row) = l.map A1.row := IM _ _ (fun x => by simp only [A1.row, Fz, frz, QV, Td, Te, Tf, PW]) l
theorem Vs (l : List A1) : B5 (l.map A1.row) = true := IN _ (fun x => by simp only [A1.row, DG, allOwn, QW, Tg, Th, Ti, PX, Bool.and_self]) l
theorem oW (l : List A1) : ((l.map A1.row).all fun r => r.length == 2) = true := G4 _ _ (fun x => by rfl) l
theorem oX (l l' : List A1) : ((l.map A1.row).map (·.length) = (l'.map A1.row).map (·.length)) = ((if l.length = l'.length then some () else none) = some ()) := MV A1.row 2 (fun x => by rfl) l l'
theorem fR (l : List A1) (i : Nat) (v0 : ByteArray) (v1 : ByteArray) : (l.map A1.row).set i [.v (.string v0), .v (.string v1)] = (l.set i (A1.mk v0 v1)).map A1.row := QE A1.row l i (A1.mk v0 v1) _ (by simp only [A1.row_eq])
theorem fS (l : List A1) (rs : Rows) (v0 : ByteArray) (v1 : ByteArray) : l.map A1.row ++ ([.v (.string v0), .v (.string v1)] :: rs) = (l ++ [(A1.mk v0 v1)]).map A1.row ++ rs := QX A1.row l (A1.mk v0 v1) _ rs (by simp only [A1.row_eq])
theorem fT (n : Nat) (v0 : ByteArray) (v1 : ByteArray) : List.replicate n [T.v (.string v0), T.v (.string v1)] = (List.replicate n (A1.mk v0 v1)).map A1.row := Tj A1.row n (A1.mk v0 v1) _ (by simp only [A1.row_eq])
theorem oY (x : A1) : A1.mk x.Pre x.Uri = x := by cases x; rfl
structure A3 where
 Pre : ByteArray
 Local : ByteArray
 Uri : ByteArray
 Val : ByteArray
def A3.row (x : A3) : List T := [.v (.string x.Pre), .v (.string x.Local), .v (.string x.Uri), .v (.string x.Val)]
theorem A3.row_eq (x : A3) : A3.row x = [.v (.string x.Pre), .v (.string x.Local), .v (.string x.Uri), .v (.string x.Val)] := rfl
theorem Vt (l : List A3) : AU (l.map A3.row) = l.map A3.row := IM _ _ (fun x => by simp only [A3.row, Fz, frz, QV, Td, Te, Tf, PW]) l
theorem Vu (l : List A3) : B5 (l.map A3.row) = true := IN _ (fun x => by simp only [A3.row, DG, allOwn, QW, Tg, Th, Ti, PX, Bool.and_self]) l
theorem oZ (l : List A3) : ((l.map A3.row).all fun r => r.length == 4) = true := G4 _ _ (fun x => by rfl) l
theorem oa (l l' : List A3) : ((l.map A3.row).map (·.length) = (l'.map A3.row).map (·.length)) = ((if l.length = l'.length then some () else none) = some ()) := MV A3.row 4 (fun x => by rfl) l l'
theorem fU (l : List A3) (i : Nat) (v0 : ByteArray) (v1 : ByteArray) (v2 : ByteArray) (v3 : ByteArray) : (l.map A3.row).set i [.v (.string v0), .v (.string v1), .v (.string v2), .v (.string v3)] = (l.set i (A3.mk v0 v1 v2 v3)).map A3.row := QE A3.row l i (A3.mk v0 v1 v2 v3) _ (by simp only [A3.row_eq])
theorem fV (l : List A3) (rs : Rows) (v0 : ByteArray) (v1 : ByteArray) (v2 : ByteArray) (v3 : ByteArray) : l.map A3.row ++ ([.v (.string v0), .v (.string v1), .v (.string v2), .v (.string v3)] :: rs) = (l ++ [(A3.mk v0 v1 v2 v3)]).map A3.row ++ rs := QX A3.row l (A3.mk v0 v1 v2 v3) _ rs (by simp only [A3.row_eq])
theorem fW (n : Nat) (v0 : ByteArray) (v1 : ByteArray) (v2 : ByteArray) (v3 : ByteArray) : List.replicate n [T.v (.string v0), T.v (.string v1), T.v (.string v2), T.v (.string v3)] = (List.replicate n (A3.mk v0 v1 v2 v3)).map A3.row := Tj A3.row n (A3.mk v0 v1 v2 v3) _ (by simp only [A3.row_eq])
theorem oc (x : A3) : A3.mk x.Pre x.Local x.Uri x.Val = x := by cases x; rfl
structure A0 where
 Kind : Int
 Pre : ByteArray
 Local : ByteArray
 Uri : ByteArray
 Decls : List A1
 Attrs : List A3
 Kids : List A0
 Text : ByteArray
mutual
def A0.row (o : Bool) : A0 → List T
 | ⟨v0, v1, v2, v3, v4, v5, v6, v7⟩ => [.v (.int .i64 v0), .v (.string v1), .v (.string v2), .v (.string v3), .sl o (v4.map A1.row), .sl o (v5.map A3.row), .sl o (A0.rows o v6), .v (.string v7)]
def A0.rows (o : Bool) : List A0 → Rows
 | [] => []
 | x :: xs => A0.row o x :: A0.rows o xs
end
theorem A0.rows_eq (o : Bool) (l : List A0) : A0.rows o l = l.map (A0.row o) := by
 induction l with
 | nil => rfl
 | cons x l ih => simp only [A0.rows, List.map_cons, ih]
theorem A0.row_eq (o : Bool) (x : A0) : A0.row o x = [.v (.int .i64 x.Kind), .v (.string x.Pre), .v (.string x.Local), .v (.string x.Uri), .sl o (x.Decls.map A1.row), .sl o (x.Attrs.map A3.row), .sl o (x.Kids.map (A0.row o)), .v (.string x.Text)] := by
 cases x; simp only [A0.row, A0.rows_eq]
mutual
theorem A0.frz1 (o : Bool) : ∀ x : A0, Fz (A0.row o x) = A0.row false x
 | ⟨v0, v1, v2, v3, v4, v5, v6, v7⟩ => by simp only [A0.row, Fz, frz, QV, Td, Te, Tf, PW, Vt, Vr, A0.frzs]
theorem A0.frzs (o : Bool) : ∀ l : List A0, AU (A0.rows o l) = A0.rows false l
 | [] => rfl
 | x :: l => by simp only [A0.rows, AU, A0.frz1, A0.frzs]
end
mutual
theorem A0.own1 : ∀ x : A0, DG (A0.row true x) = true
 | ⟨v0, v1, v2, v3, v4, v5, v6, v7⟩ => by simp only [A0.row, DG, allOwn, QW, Tg, Th, Ti, PX, Vu, Vs, A0.owns, Bool.and_self]
theorem A0.owns : ∀ l : List A0, B5 (A0.rows true l) = true
 | [] => rfl
 | x :: l => by simp only [A0.rows, B5, A0.own1, A0.owns, Bool.and_self]
end
theorem dj (o : Bool) (l : List A0) : AU (l.map (A0.row o)) = l.map (A0.row false) := IM _ _ (A0.frz1 o) l
theorem dk (l : List A0) : B5 (l.map (A0.row true)) = true := IN _ A0.own1 l
theorem od (o : Bool) (l : List A0) : ((l.map (A0.row o)).all fun r => r.length == 8) = true := G4 _ _ (fun x => by cases x; rfl) l
theorem oe (o : Bool) (l l' : List A0) : ((l.map (A0.row o)).map (·.length) = (l'.map (A0.row o)).map (·.length)) = ((if l.length = l'.length then some () else none) = some ()) := MV (A0.row o) 8 (fun x => by cases x; rfl) l l'
theorem fX (o : Bool) (l : List A0) (i : Nat) (v0 : Int) (v1 : ByteArray) (v2 : ByteArray) (v3 : ByteArray) (v4 : List A1) (v5 : List A3) (v6 : List A0) (v7 : ByteArray) : (l.map (A0.row o)).set i [.v (.int .i64 v0), .v (.string v1), .v (.string v2), .v (.string v3), .sl o (v4.map A1.row), .sl o (v5.map A3.row), .sl o (v6.map (A0.row o)), .v (.string v7)] = (l.set i (A0.mk v0 v1 v2 v3 v4 v5 v6 v7)).map (A0.row o) := QE (A0.row o) l i (A0.mk v0 v1 v2 v3 v4 v5 v6 v7) _ (by simp only [A0.row_eq])
theorem fY (o : Bool) (l : List A0) (rs : Rows) (v0 : Int) (v1 : ByteArray) (v2 : ByteArray) (v3 : ByteArray) (v4 : List A1) (v5 : List A3) (v6 : List A0) (v7 : ByteArray) : l.map (A0.row o) ++ ([.v (.int .i64 v0), .v (.string v1), .v (.string v2), .v (.string v3), .sl o (v4.map A1.row), .sl o (v5.map A3.row), .sl o (v6.map (A0.row o)), .v (.string v7)] :: rs) = (l ++ [(A0.mk v0 v1 v2 v3 v4 v5 v6 v7)]).map (A0.row o) ++ rs := QX (A0.row o) l (A0.mk v0 v1 v2 v3 v4 v5 v6 v7) _ rs (by simp only [A0.row_eq])
theorem fZ (o : Bool) (n : Nat) (v0 : Int) (v1 : ByteArray) (v2 : ByteArray) (v3 : ByteArray) (v4 : List A1) (v5 : List A3) (v6 : List A0) (v7 : ByteArray) : List.replicate n [T.v (.int .i64 v0), T.v (.string v1), T.v (.string v2), T.v (.string v3), T.sl o (v4.map A1.row), T.sl o (v5.map A3.row), T.sl o (v6.map (A0.row o)), T.v (.string v7)] = (List.replicate n (A0.mk v0 v1 v2 v3 v4 v5 v6 v7)).map (A0.row o) := Tj (A0.row o) n (A0.mk v0 v1 v2 v3 v4 v5 v6 v7) _ (by simp only [A0.row_eq])
theorem fb (o : Bool) (l : List A0) (i : Nat) (v0 : Int) (v1 : ByteArray) (v2 : ByteArray) (v3 : ByteArray) (v5 : List A3) (v6 : List A0) (v7 : ByteArray) : (l.map (A0.row o)).set i [.v (.int .i64 v0), .v (.string v1), .v (.string v2), .v (.string v3), .sl o [], .sl o (v5.map A3.row), .sl o (v6.map (A0.row o)), .v (.string v7)] = (l.set i (A0.mk v0 v1 v2 v3 [] v5 v6 v7)).map (A0.row o) := QE (A0.row o) l i (A0.mk v0 v1 v2 v3 [] v5 v6 v7) _ (by simp only [A0.row_eq, List.map_nil])
theorem fc (o : Bool) (l : List A0) (rs : Rows) (v0 : Int) (v1 : ByteArray) (v2 : ByteArray) (v3 : ByteArray) (v5 : List A3) (v6 : List A0) (v7 : ByteArray) : l.map (A0.row o) ++ ([.v (.int .i64 v0), .v (.string v1), .v (.string v2), .v (.string v3), .sl o [], .sl o (v5.map A3.row), .sl o (v6.map (A0.row o)), .v (.string v7)] :: rs) = (l ++ [(A0.mk v0 v1 v2 v3 [] v5 v6 v7)]).map (A0.row o) ++ rs := QX (A0.row o) l (A0.mk v0 v1 v2 v3 [] v5 v6 v7) _ rs (by simp only [A0.row_eq, List.map_nil])
theorem fe (o : Bool) (n : Nat) (v0 : Int) (v1 : ByteArray) (v2 : ByteArray) (v3 : ByteArray) (v5 : List A3) (v6 : List A0) (v7 : ByteArray) : List.replicate n [T.v (.int .i64 v0), T.v (.string v1), T.v (.string v2), T.v (.string v3), T.sl o [], T.sl o (v5.map A3.row), T.sl o (v6.map (A0.row o)), T.v (.string v7)] = (List.replicate n (A0.mk v0 v1 v2 v3 [] v5 v6 v7)).map (A0.row o) := Tj (A0.row o) n (A0.mk v0 v1 v2 v3 [] v5 v6 v7) _ (by simp only [A0.row_eq, List.map_nil])
theorem ff (o : Bool) (l : List A0) (i : Nat) (v0 : Int) (v1 : ByteArray) (v2 : ByteArray) (v3 : ByteArray) (v4 : List A1) (v6 : List A0) (v7 : ByteArray) : (l.map (A0.row o)).set i [.v (.int .i64 v0), .v (.string v1), .v (.string v2), .v (.string v3), .sl o (v4.map A1.row), .sl o [], .sl o (v6.map (A0.row o)), .v (.string v7)] = (l.set i (A0.mk v0 v1 v2 v3 v4 [] v6 v7)).map (A0.row o) := QE (A0.row o) l i (A0.mk v0 v1 v2 v3 v4 [] v6 v7) _ (by simp only [A0.row_eq, List.map_nil])
theorem fg (o : Bool) (l : List A0) (rs : Rows) (v0 : Int) (v1 : ByteArray) (v2 : ByteArray) (v3 : ByteArray) (v4 : List A1) (v6 : List A0) (v7 : ByteArray) : l.map (A0.row o) ++ ([.v (.int .i64 v0), .v (.string v1), .v (.string v2), .v (.string v3), .sl o (v4.map A1.row), .sl o [], .sl o (v6.map (A0.row o)), .v (.string v7)] :: rs) = (l ++ [(A0.mk v0 v1 v2 v3 v4 [] v6 v7)]).map (A0.row o) ++ rs := QX (A0.row o) l (A0.mk v0 v1 v2 v3 v4 [] v6 v7) _ rs (by simp only [A0.row_eq, List.map_nil])
theorem fh (o : Bool) (n : Nat) (v0 : Int) (v1 : ByteArray) (v2 : ByteArray) (v3 : ByteArray) (v4 : List A1) (v6 : List A0) (v7 : ByteArray) : List.replicate n [T.v (.int .i64 v0), T.v (.string v1), T.v (.string v2), T.v (.string v3), T.sl o (v4.map A1.row), T.sl o [], T.sl o (v6.map (A0.row o)), T.v (.string v7)] = (List.replicate n (A0.mk v0 v1 v2 v3 v4 [] v6 v7)).map (A0.row o) := Tj (A0.row o) n (A0.mk v0 v1 v2 v3 v4 [] v6 v7) _ (by simp only [A0.row_eq, List.map_nil])
theorem fi (o : Bool) (l : List A0) (i : Nat) (v0 : Int) (v1 : ByteArray) (v2 : ByteArray) (v3 : ByteArray) (v6 : List A0) (v7 : ByteArray) : (l.map (A0.row o)).set i [.v (.int .i64 v0), .v (.string v1), .v (.string v2), .v (.string v3), .sl o [], .sl o [], .sl o (v6.map (A0.row o)), .v (.string v7)] = (l.set i (A0.mk v0 v1 v2 v3 [] [] v6 v7)).map (A0.row o) := QE (A0.row o) l i (A0.mk v0 v1 v2 v3 [] [] v6 v7) _ (by simp only [A0.row_eq, List.map_nil])
theorem fj (o : Bool) (l : List A0) (rs : Rows) (v0 : Int) (v1 : ByteArray) (v2 : ByteArray) (v3 : ByteArray) (v6 : List A0) (v7 : ByteArray) : l.map (A0.row o) ++ ([.v (.int .i64 v0), .v (.string v1), .v (.string v2), .v (.string v3), .sl o [], .sl o [], .sl o (v6.map (A0.row o)), .v (.string v7)] :: rs) = (l ++ [(A0.mk v0 v1 v2 v3 [] [] v6 v7)]).map (A0.row o) ++ rs := QX (A0.row o) l (A0.mk v0 v1 v2 v3 [] [] v6 v7) _ rs (by simp only [A0.row_eq, List.map_nil])
theorem fk (o : Bool) (n : Nat) (v0 : Int) (v1 : ByteArray) (v2 : ByteArray) (v3 : ByteArray) (v6 : List A0) (v7 : ByteArray) : List.replicate n [T.v (.int .i64 v0), T.v (.string v1), T.v (.string v2), T.v (.string v3), T.sl o [], T.sl o [], T.sl o (v6.map (A0.row o)), T.v (.string v7)] = (List.replicate n (A0.mk v0 v1 v2 v3 [] [] v6 v7)).map (A0.row o) := Tj (A0.row o) n (A0.mk v0 v1 v2 v3 [] [] v6 v7) _ (by simp only [A0.row_eq, List.map_nil])
theorem fl (o : Bool) (l : List A0) (i : Nat) (v0 : Int) (v1 : ByteArray) (v2 : ByteArray) (v3 : ByteArray) (v4 : List A1) (v5 : List A3) (v7 : ByteArray) : (l.map (A0.row o)).set i [.v (.int .i64 v0), .v (.string v1), .v (.string v2), .v (.string v3), .sl o (v4.map A1.row), .sl o (v5.map A3.row), .sl o [], .v (.string v7)] = (l.set i (A0.mk v0 v1 v2 v3 v4 v5 [] v7)).map (A0.row o) := QE (A0.row o) l i (A0.mk v0 v1 v2 v3 v4 v5 [] v7) _ (by simp only [A0.row_eq, List.map_nil])
theorem fm (o : Bool) (l : List A0) (rs : Rows) (v0 : Int) (v1 : ByteArray) (v2 : ByteArray) (v3 : ByteArray) (v4 : List A1) (v5 : List A3) (v7 : ByteArray) : l.map (A0.row o) ++ ([.v (.int .i64 v0), .v (.string v1), .v (.string v2), .v (.string v3), .sl o (v4.map A1.row), .sl o (v5.map A3.row), .sl o [], .v (.string v7)] :: rs) = (l ++ [(A0.mk v0 v1 v2 v3 v4 v5 [] v7)]).map (A0.row o) ++ rs := QX (A0.row o) l (A0.mk v0 v1 v2 v3 v4 v5 [] v7) _ rs (by simp only [A0.row_eq, List.map_nil])
theorem fo (o : Bool) (n : Nat) (v0 : Int) (v1 : ByteArray) (v2 : ByteArray) (v3 : ByteArray) (v4 : List A1) (v5 : List A3) (v7 : ByteArray) : List.replicate n [T.v (.int .i64 v0), T.v (.string v1), T.v (.string v2), T.v (.string v3), T.sl o (v4.map A1.row), T.sl o (v5.map A3.row), T.sl o [], T.v (.string v7)] = (List.replicate n (A0.mk v0 v1 v2 v3 v4 v5 [] v7)).map (A0.row o) := Tj (A0.row o) n (A0.mk v0 v1 v2 v3 v4 v5 [] v7) _ (by simp only [A0.row_eq, List.map_nil])
theorem fp (o : Bool) (l : List A0) (i : Nat) (v0 : Int) (v1 : ByteArray) (v2 : ByteArray) (v3 : ByteArray) (v5 : List A3) (v7 : ByteArray) : (l.map (A0.row o)).set i [.v (.int .i64 v0), .v (.string v1), .v (.string v2), .v (.string v3), .sl o [], .sl o (v5.map A3.row), .sl o [], .v (.string v7)] = (l.set i (A0.mk v0 v1 v2 v3 [] v5 [] v7)).map (A0.row o) := QE (A0.row o) l i (A0.mk v0 v1 v2 v3 [] v5 [] v7) _ (by simp only [A0.row_eq, List.map_nil])
theorem fq (o : Bool) (l : List A0) (rs : Rows) (v0 : Int) (v1 : ByteArray) (v2 : ByteArray) (v3 : ByteArray) (v5 : List A3) (v7 : ByteArray) : l.map (A0.row o) ++ ([.v (.int .i64 v0), .v (.string v1), .v (.string v2), .v (.string v3), .sl o [], .sl o (v5.map A3.row), .sl o [], .v (.string v7)] :: rs) = (l ++ [(A0.mk v0 v1 v2 v3 [] v5 [] v7)]).map (A0.row o) ++ rs := QX (A0.row o) l (A0.mk v0 v1 v2 v3 [] v5 [] v7) _ rs (by simp only [A0.row_eq, List.map_nil])
theorem fu (o : Bool) (n : Nat) (v0 : Int) (v1 : ByteArray) (v2 : ByteArray) (v3 : ByteArray) (v5 : List A3) (v7 : ByteArray) : List.replicate n [T.v (.int .i64 v0), T.v (.string v1), T.v (.string v2), T.v (.string v3), T.sl o [], T.sl o (v5.map A3.row), T.sl o [], T.v (.string v7)] = (List.replicate n (A0.mk v0 v1 v2 v3 [] v5 [] v7)).map (A0.row o) := Tj (A0.row o) n (A0.mk v0 v1 v2 v3 [] v5 [] v7) _ (by simp only [A0.row_eq, List.map_nil])
theorem fw (o : Bool) (l : List A0) (i : Nat) (v0 : Int) (v1 : ByteArray) (v2 : ByteArray) (v3 : ByteArray) (v4 : List A1) (v7 : ByteArray) : (l.map (A0.row o)).set i [.v (.int .i64 v0), .v (.string v1), .v (.string v2), .v (.string v3), .sl o (v4.map A1.row), .sl o [], .sl o [], .v (.string v7)] = (l.set i (A0.mk v0 v1 v2 v3 v4 [] [] v7)).map (A0.row o) := QE (A0.row o) l i (A0.mk v0 v1 v2 v3 v4 [] [] v7) _ (by simp only [A0.row_eq, List.map_nil])
theorem fy (o : Bool) (l : List A0) (rs : Rows) (v0 : Int) (v1 : ByteArray) (v2 : ByteArray) (v3 : ByteArray) (v4 : List A1) (v7 : ByteArray) : l.map (A0.row o) ++ ([.v (.int .i64 v0), .v (.string v1), .v (.string v2), .v (.string v3), .sl o (v4.map A1.row), .sl o [], .sl o [], .v (.string v7)] :: rs) = (l ++ [(A0.mk v0 v1 v2 v3 v4 [] [] v7)]).map (A0.row o) ++ rs := QX (A0.row o) l (A0.mk v0 v1 v2 v3 v4 [] [] v7) _ rs (by simp only [A0.row_eq, List.map_nil])
theorem fz (o : Bool) (n : Nat) (v0 : Int) (v1 : ByteArray) (v2 : ByteArray) (v3 : ByteArray) (v4 : List A1) (v7 : ByteArray) : List.replicate n [T.v (.int .i64 v0), T.v (.string v1), T.v (.string v2), T.v (.string v3), T.sl o (v4.map A1.row), T.sl o [], T.sl o [], T.v (.string v7)] = (List.replicate n (A0.mk v0 v1 v2 v3 v4 [] [] v7)).map (A0.row o) := Tj (A0.row o) n (A0.mk v0 v1 v2 v3 v4 [] [] v7) _ (by simp only [A0.row_eq, List.map_nil])
theorem gA (o : Bool) (l : List A0) (i : Nat) (v0 : Int) (v1 : ByteArray) (v2 : ByteArray) (v3 : ByteArray) (v7 : ByteArray) : (l.map (A0.row o)).set i [.v (.int .i64 v0), .v (.string v1), .v (.string v2), .v (.string v3), .sl o [], .sl o [], .sl o [], .v (.string v7)] = (l.set i (A0.mk v0 v1 v2 v3 [] [] [] v7)).map (A0.row o) := QE (A0.row o) l i (A0.mk v0 v1 v2 v3 [] [] [] v7) _ (by simp only [A0.row_eq, List.map_nil])
theorem gB (o : Bool) (l : List A0) (rs : Rows) (v0 : Int) (v1 : ByteArray) (v2 : ByteArray) (v3 : ByteArray) (v7 : ByteArray) : l.map (A0.row o) ++ ([.v (.int .i64 v0), .v (.string v1), .v (.string v2), .v (.string v3), .sl o [], .sl o [], .sl o [], .v (.string v7)] :: rs) = (l ++ [(A0.mk v0 v1 v2 v3 [] [] [] v7)]).map (A0.row o) ++ rs := QX (A0.row o) l (A0.mk v0 v1 v2 v3 [] [] [] v7) _ rs (by simp only [A0.row_eq, List.map_nil])
theorem gC (o : Bool) (n : Nat) (v0 : Int) (v1 : ByteArray) (v2 : ByteArray) (v3 : ByteArray) (v7 : ByteArray) : List.replicate n [T.v (.int .i64 v0), T.v (.string v1), T.v (.string v2), T.v (.string v3), T.sl o [], T.sl o [], T.sl o [], T.v (.string v7)] = (List.replicate n (A0.mk v0 v1 v2 v3 [] [] [] v7)).map (A0.row o) := Tj (A0.row o) n (A0.mk v0 v1 v2 v3 [] [] [] v7) _ (by simp only [A0.row_eq, List.map_nil])
theorem Vv (x : A0) : A0.mk x.Kind x.Pre x.Local x.Uri x.Decls x.Attrs x.Kids x.Text = x := by cases x; rfl
structure A8 where
 Tre : A0
 Path : List Int
def A8.row (o : Bool) (x : A8) : List T := [.v (.int .i64 x.Tre.Kind), .v (.string x.Tre.Pre), .v (.string x.Tre.Local), .v (.string x.Tre.Uri), .sl o (x.Tre.Decls.map A1.row), .sl o (x.Tre.Attrs.map A3.row), .sl o (x.Tre.Kids.map (A0.row o)), .v (.string x.Tre.Text), .sl o (x.Path.map rI)]
theorem A8.row_eq (o : Bool) (x : A8) : A8.row o x = [.v (.int .i64 x.Tre.Kind), .v (.string x.Tre.Pre), .v (.string x.Tre.Local), .v (.string x.Tre.Uri), .sl o (x.Tre.Decls.map A1.row), .sl o (x.Tre.Attrs.map A3.row), .sl o (x.Tre.Kids.map (A0.row o)), .v (.string x.Tre.Text), .sl o (x.Path.map rI)] := rfl
theorem og (o : Bool) (l : List A8) : AU (l.map (A8.row o)) = l.map (A8.row false) := IM _ _ (fun x => by simp only [A8.row, Fz, frz, QV, Td, Te, Tf, PW, Vt, Vr, dj]) l
theorem oh (l : List A8) : B5 (l.map (A8.row true)) = true := IN _ (fun x => by simp only [A8.row, DG, allOwn, QW, Tg, Th, Ti, PX, Vu, Vs, dk, Bool.and_self]) l
theorem oi (o : Bool) (l : List A8) : ((l.map (A8.row o)).all fun r => r.length == 9) = true := G4 _ _ (fun x => by rfl) l
theorem ol (o : Bool) (l l' : List A8) : ((l.map (A8.row o)).map (·.length) = (l'.map (A8.row o)).map (·.length)) = ((if l.length = l'.length then some () else none) = some ()) := MV (A8.row o) 9 (fun x => by rfl) l l'
theorem Vw (x : A8) : A8.mk x.Tre x.Path = x := by cases x; rfl
structure A2 where
 xb : List Int
 xi : Int
 xh : Int
def A2.row (o : Bool) (x : A2) : List T := [.sl o (x.xb.map (rK .u8)), .v (.int .i64 x.xi), .v (.int .i64 x.xh)]
theorem A2.row_eq (o : Bool) (x : A2) : A2.row o x = [.sl o (x.xb.map (rK .u8)), .v (.int .i64 x.xi), .v (.int .i64 x.xh)] := rfl
theorem lr (o : Bool) (l : List A2) : AU (l.map (A2.row o)) = l.map (A2.row false) := IM _ _ (fun x => by simp only [A2.row, Fz, frz, QV, Td, Te, Tf, PW]) l
theorem lt (l : List A2) : B5 (l.map (A2.row true)) = true := IN _ (fun x => by simp only [A2.row, DG, allOwn, QW, Tg, Th, Ti, PX, Bool.and_self]) l
theorem lu (o : Bool) (l : List A2) : ((l.map (A2.row o)).all fun r => r.length == 3) = true := G4 _ _ (fun x => by rfl) l
theorem lw (o : Bool) (l l' : List A2) : ((l.map (A2.row o)).map (·.length) = (l'.map (A2.row o)).map (·.length)) = ((if l.length = l'.length then some () else none) = some ()) := MV (A2.row o) 3 (fun x => by rfl) l l'
theorem ly (x : A2) : A2.mk x.xb x.xi x.xh = x := by cases x; rfl
structure A7 where
 xa0 : Int
 xa1 : Int
def A7.row (x : A7) : List T := [.v (.int .i64 x.xa0), .v (.int .i64 x.xa1)]
theorem A7.row_eq (x : A7) : A7.row x = [.v (.int .i64 x.xa0), .v (.int .i64 x.xa1)] := rfl
theorem gD (l : List A7) : AU (l.map A7.row) = l.map A7.row := IM _ _ (fun x => by simp only [A7.row, Fz, frz, QV, Td, Te, Tf, PW]) l
theorem gE (l : List A7) : B5 (l.map A7.row) = true := IN _ (fun x => by simp only [A7.row, DG, allOwn, QW, Tg, Th, Ti, PX, Bool.and_self]) l
theorem gF (l : List A7) : ((l.map A7.row).all fun r => r.length == 2) = true := G4 _ _ (fun x => by rfl) l
theorem gG (l l' : List A7) : ((l.map A7.row).map (·.length) = (l'.map A7.row).map (·.length)) = ((if l.length = l'.length then some () else none) = some ()) := MV A7.row 2 (fun x => by rfl) l l'
theorem Xa (l : List A7) (i : Nat) (v0 : Int) (v1 : Int) : (l.map A7.row).set i [.v (.int .i64 v0), .v (.int .i64 v1)] = (l.set i (A7.mk v0 v1)).map A7.row := QE A7.row l i (A7.mk v0 v1) _ (by simp only [A7.row_eq])
theorem Xb (l : List A7) (rs : Rows) (v0 : Int) (v1 : Int) : l.map A7.row ++ ([.v (.int .i64 v0), .v (.int .i64 v1)] :: rs) = (l ++ [(A7.mk v0 v1)]).map A7.row ++ rs := QX A7.row l (A7.mk v0 v1) _ rs (by simp only [A7.row_eq])
theorem Xc (n : Nat) (v0 : Int) (v1 : Int) : List.replicate n [T.v (.int .i64 v0), T.v (.int .i64 v1)] = (List.replicate n (A7.mk v0 v1)).map A7.row := Tj A7.row n (A7.mk v0 v1) _ (by simp only [A7.row_eq])
theorem gH (x : A7) : A7.mk x.xa0 x.xa1 = x := by cases x; rfl
def RS := And.intro (@A1.row_eq) <| And.intro (@fR) <| And.intro (@fS) <| And.intro (@fT) <| And.intro (@oY) <| And.intro (@Vr) <| And.intro (@Vs) <| And.intro (@oW) <| And.intro (@oX) <| And.intro (@A3.row_eq) <| And.intro (@fU) <| And.intro (@fV) <| And.intro (@fW) <| And.intro (@oc) <| And.intro (@Vt) <| And.intro (@Vu) <| And.intro (@oZ) <| And.intro (@oa) <| And.intro (@A0.row_eq) <| And.intro (@fX) <| And.intro (@fY) <| And.intro (@fZ) <| And.intro (@fb) <| And.intro (@fc) <| And.intro (@fe) <| And.intro (@ff) <| And.intro (@fg) <| And.intro (@fh) <| And.intro (@fi) <| And.intro (@fj) <| And.intro (@fk) <| And.intro (@fl) <| And.intro (@fm) <| And.intro (@fo) <| And.intro (@fp) <| And.intro (@fq) <| And.intro (@fu) <| And.intro (@fw) <| And.intro (@fy) <| And.intro (@fz) <| And.intro (@gA) <| And.intro (@gB) <| And.intro (@gC) <| And.intro (@Vv) <| And.intro (@dj) <| And.intro (@dk) <| And.intro (@od) <| And.intro (@oe) <| And.intro (@A8.row_eq) <| And.intro (@Vw) <| And.intro (@og) <| And.intro (@oh) <| And.intro (@oi) <| And.intro (@ol) <| And.intro (@A2.row_eq) <| And.intro (@ly) <| And.intro (@lr) <| And.intro (@lt) <| And.intro (@lu) <| And.intro (@lw) <| And.intro (@A7.row_eq) <| And.intro (@Xa) <| And.intro (@Xb) <| And.intro (@Xc) <| And.intro (@gH) <| And.intro (@gD) <| And.intro (@gE) <| And.intro (@gF) <| (@gG)
end TT
