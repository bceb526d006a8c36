import Derived.Test.YtpmnlfgdicmiiaaGreatDoorTH4
import Derived.Test.YtpmnlfgdicmiiaaGreatDoorTHX4
set_option maxHeartbeats 2000000
set_option linter.unusedVariables false
set_option linter.unusedSimpArgs false
set_option linter.defProp false
set_option maxRecDepth 100000
namespace TT
open Go
structure A1 where
 Pre:ByteArray
 Uri:ByteArray
def A1.row (x:A1):List T:=[.v (.string x.Pre), .v (.string x.Uri)]
theorem A1.row_eq (x:A1):A1.row x=[.v (.string x.Pre), .v (.string x.Uri)]:=rfl
theorem ZE (l:List A1):AZ (l.map A1.row)=l.map A1.row:=FX _ _ (fun x=>by simp only[A1.row,Fm,frz,KP,LM,LN,LO,ID]) l
theorem ZF (l:List A1):Aw (l.map A1.row)=true:=FY _ (fun x=>by simp only[A1.row,Cg,allOwn,KQ,LP,LQ,LR,IE,Bool.and_self]) l
theorem uT (l:List A1):((l.map A1.row).all fun r=>r.length==2)=true:=Ds _ _ (fun x=>by rfl) l
theorem uU (l l':List A1):((l.map A1.row).map (·.length)=(l'.map A1.row).map (·.length))=((if l.length=l'.length then some ()else none)=some ()):=GY A1.row 2 (fun x=>by rfl) l l'
theorem kh (l:List A1) (i:Nat) (v0:ByteArray) (v1:ByteArray):(l.map A1.row).set i [.v (.string v0), .v (.string v1)]=(l.set i (A1.mk v0 v1)).map A1.row:=Pj A1.row l i (A1.mk v0 v1) _ (by simp only[A1.row_eq])
theorem ki (l:List A1) (rs:Rows) (v0:ByteArray) (v1:ByteArray):l.map A1.row++([.v (.string v0), .v (.string v1)]::rs)=(l++[(A1.mk v0 v1)]).map A1.row++rs:=Pk A1.row l (A1.mk v0 v1) _ rs (by simp only[A1.row_eq])
theorem kj (n:Nat) (v0:ByteArray) (v1:ByteArray):List.replicate n [T.v (.string v0),T.v (.string v1)]=(List.replicate n (A1.mk v0 v1)).map A1.row:=R9 A1.row n (A1.mk v0 v1) _ (by simp only[A1.row_eq])
theorem uV (x:A1):A1.mk x.Pre x.Uri=x:=by cases x;rfl
structure A3 where
 Pre:ByteArray
 Local:ByteArray
 Uri:ByteArray
 Val:ByteArray
def A3.row (x:A3):List T:=[.v (.string x.Pre), .v (.string x.Local), .v (.string x.Uri), .v (.string x.Val)]
theorem A3.row_eq (x:A3):A3.row x=[.v (.string x.Pre), .v (.string x.Local), .v (.string x.Uri), .v (.string x.Val)]:=rfl
theorem ZG (l:List A3):AZ (l.map A3.row)=l.map A3.row:=FX _ _ (fun x=>by simp only[A3.row,Fm,frz,KP,LM,LN,LO,ID]) l
theorem ZH (l:List A3):Aw (l.map A3.row)=true:=FY _ (fun x=>by simp only[A3.row,Cg,allOwn,KQ,LP,LQ,LR,IE,Bool.and_self]) l
theorem uW (l:List A3):((l.map A3.row).all fun r=>r.length==4)=true:=Ds _ _ (fun x=>by rfl) l
theorem uX (l l':List A3):((l.map A3.row).map (·.length)=(l'.map A3.row).map (·.length))=((if l.length=l'.length then some ()else none)=some ()):=GY A3.row 4 (fun x=>by rfl) l l'
theorem kl (l:List A3) (i:Nat) (v0:ByteArray) (v1:ByteArray) (v2:ByteArray) (v3:ByteArray):(l.map A3.row).set i [.v (.string v0), .v (.string v1), .v (.string v2), .v (.string v3)]=(l.set i (A3.mk v0 v1 v2 v3)).map A3.row:=Pj A3.row l i (A3.mk v0 v1 v2 v3) _ (by simp only[A3.row_eq])
theorem km (l:List A3) (rs:Rows) (v0:ByteArray) (v1:ByteArray) (v2:ByteArray) (v3:ByteArray):l.map A3.row++([.v (.string v0), .v (.string v1), .v (.string v2), .v (.string v3)]::rs)=(l++[(A3.mk v0 v1 v2 v3)]).map A3.row++rs:=Pk A3.row l (A3.mk v0 v1 v2 v3) _ rs (by simp only[A3.row_eq])
theorem kn (n:Nat) (v0:ByteArray) (v1:ByteArray) (v2:ByteArray) (v3:ByteArray):List.replicate n [T.v (.string v0),T.v (.string v1),T.v (.string v2),T.v (.string v3)]=(List.replicate n (A3.mk v0 v1 v2 v3)).map A3.row:=R9 A3.row n (A3.mk v0 v1 v2 v3) _ (by simp only[A3.row_eq])
theorem uY (x:A3):A3.mk x.Pre x.Local x.Uri x.Val=x:=by cases x;rfl
structure A0 where
 Kind:Int
 Pre:ByteArray
 Local:ByteArray
 Uri:ByteArray
 Decls:List A1
 Attrs:List A3
 Kids:List A0
 Text:ByteArray
mutual
def A0.row (o:Bool):A0→List T
 |⟨v0,v1,v2,v3,v4,v5,v6,v7⟩=>[.v (.int .i64 v0), .v (.string v1), .v (.string v2), .v (.string v3), .sl o (v4.map A1.row), .sl o (v5.map A3.row), .sl o (A0.rows o v6), .v (.string v7)]
def A0.rows (o:Bool):List A0→Rows
 | []=>[]
 |x::xs=>A0.row o x::A0.rows o xs
end
theorem A0.rows_eq (o:Bool) (l:List A0):A0.rows o l=l.map (A0.row o):=by
 induction l with
 |nil=>rfl
 |cons x l ih=>simp only[A0.rows,List.map_cons,ih]
theorem A0.row_eq (o:Bool) (x:A0):A0.row o x=[.v (.int .i64 x.Kind), .v (.string x.Pre), .v (.string x.Local), .v (.string x.Uri), .sl o (x.Decls.map A1.row), .sl o (x.Attrs.map A3.row), .sl o (x.Kids.map (A0.row o)), .v (.string x.Text)]:=by
 cases x;simp only[A0.row,A0.rows_eq]
mutual
theorem A0.frz1 (o:Bool):∀x:A0,Fm (A0.row o x)=A0.row false x
 |⟨v0,v1,v2,v3,v4,v5,v6,v7⟩=>by simp only[A0.row,Fm,frz,KP,LM,LN,LO,ID,ZG,ZE,A0.frzs]
theorem A0.frzs (o:Bool):∀l:List A0,AZ (A0.rows o l)=A0.rows false l
 | []=>rfl
 |x::l=>by simp only[A0.rows,AZ,A0.frz1,A0.frzs]
end
mutual
theorem A0.own1 : ∀ x:A0,Cg (A0.row true x)=true
 |⟨v0,v1,v2,v3,v4,v5,v6,v7⟩=>by simp only[A0.row,Cg,allOwn,KQ,LP,LQ,LR,IE,ZH,ZF,A0.owns,Bool.and_self]
theorem A0.owns : ∀ l:List A0,Aw (A0.rows true l)=true
 | []=>rfl
 |x::l=>by simp only[A0.rows,Aw,A0.own1,A0.owns,Bool.and_self]
end
theorem jP (o:Bool) (l:List A0):AZ (l.map (A0.row o))=l.map (A0.row false):=FX _ _ (A0.frz1 o) l
theorem jQ (l:List A0):Aw (l.map (A0.row true))=true:=FY _ A0.own1 l
theorem uZ (o:Bool) (l:List A0):((l.map (A0.row o)).all fun r=>r.length==8)=true:=Ds _ _ (fun x=>by cases x;rfl) l
theorem ua (o:Bool) (l l':List A0):((l.map (A0.row o)).map (·.length)=(l'.map (A0.row o)).map (·.length))=((if l.length=l'.length then some ()else none)=some ()):=GY (A0.row o) 8 (fun x=>by cases x;rfl) l l'
theorem ko (o:Bool) (l:List A0) (i:Nat) (v0:Int) (v1:ByteArray) (v2:ByteArray) (v3:ByteArray) (v4:List A1) (v5:List A3) (v6:List A0) (v7:ByteArray):(l.map (A0.row o)).set i [.v (.int .i64 v0), .v (.string v1), .v (.string v2), .v (.string v3), .sl o (v4.map A1.row), .sl o (v5.map A3.row), .sl o (v6.map (A0.row o)), .v (.string v7)]=(l.set i (A0.mk v0 v1 v2 v3 v4 v5 v6 v7)).map (A0.row o):=Pj (A0.row o) l i (A0.mk v0 v1 v2 v3 v4 v5 v6 v7) _ (by simp only[A0.row_eq])
theorem kq (o:Bool) (l:List A0) (rs:Rows) (v0:Int) (v1:ByteArray) (v2:ByteArray) (v3:ByteArray) (v4:List A1) (v5:List A3) (v6:List A0) (v7:ByteArray):l.map (A0.row o)++([.v (.int .i64 v0), .v (.string v1), .v (.string v2), .v (.string v3), .sl o (v4.map A1.row), .sl o (v5.map A3.row), .sl o (v6.map (A0.row o)), .v (.string v7)]::rs)=(l++[(A0.mk v0 v1 v2 v3 v4 v5 v6 v7)]).map (A0.row o)++rs:=Pk (A0.row o) l (A0.mk v0 v1 v2 v3 v4 v5 v6 v7) _ rs (by simp only[A0.row_eq])
theorem kr (o:Bool) (n:Nat) (v0:Int) (v1:ByteArray) (v2:ByteArray) (v3:ByteArray) (v4:List A1) (v5:List A3) (v6:List A0) (v7:ByteArray):List.replicate n [T.v (.int .i64 v0),T.v (.string v1),T.v (.string v2),T.v (.string v3),T.sl o (v4.map A1.row),T.sl o (v5.map A3.row),T.sl o (v6.map (A0.row o)),T.v (.string v7)]=(List.replicate n (A0.mk v0 v1 v2 v3 v4 v5 v6 v7)).map (A0.row o):=R9 (A0.row o) n (A0.mk v0 v1 v2 v3 v4 v5 v6 v7) _ (by simp only[A0.row_eq])
theorem ku (o:Bool) (l:List A0) (i:Nat) (v0:Int) (v1:ByteArray) (v2:ByteArray) (v3:ByteArray) (v5:List A3) (v6:List A0) (v7:ByteArray):(l.map (A0.row o)).set i [.v (.int .i64 v0), .v (.string v1), .v (.string v2), .v (.string v3), .sl o [], .sl o (v5.map A3.row), .sl o (v6.map (A0.row o)), .v (.string v7)]=(l.set i (A0.mk v0 v1 v2 v3 [] v5 v6 v7)).map (A0.row o):=Pj (A0.row o) l i (A0.mk v0 v1 v2 v3 [] v5 v6 v7) _ (by simp only[A0.row_eq,List.map_nil])
theorem kv (o:Bool) (l:List A0) (rs:Rows) (v0:Int) (v1:ByteArray) (v2:ByteArray) (v3:ByteArray) (v5:List A3) (v6:List A0) (v7:ByteArray):l.map (A0.row o)++([.v (.int .i64 v0), .v (.string v1), .v (.string v2), .v (.string v3), .sl o [], .sl o (v5.map A3.row), .sl o (v6.map (A0.row o)), .v (.string v7)]::rs)=(l++[(A0.mk v0 v1 v2 v3 [] v5 v6 v7)]).map (A0.row o)++rs:=Pk (A0.row o) l (A0.mk v0 v1 v2 v3 [] v5 v6 v7) _ rs (by simp only[A0.row_eq,List.map_nil])
theorem kw (o:Bool) (n:Nat) (v0:Int) (v1:ByteArray) (v2:ByteArray) (v3:ByteArray) (v5:List A3) (v6:List A0) (v7:ByteArray):List.replicate n [T.v (.int .i64 v0),T.v (.string v1),T.v (.string v2),T.v (.string v3),T.sl o [],T.sl o (v5.map A3.row),T.sl o (v6.map (A0.row o)),T.v (.string v7)]=(List.replicate n (A0.mk v0 v1 v2 v3 [] v5 v6 v7)).map (A0.row o):=R9 (A0.row o) n (A0.mk v0 v1 v2 v3 [] v5 v6 v7) _ (by simp only[A0.row_eq,List.map_nil])
theorem kx (o:Bool) (l:List A0) (i:Nat) (v0:Int) (v1:ByteArray) (v2:ByteArray) (v3:ByteArray) (v4:List A1) (v6:List A0) (v7:ByteArray):(l.map (A0.row o)).set i [.v (.int .i64 v0), .v (.string v1), .v (.string v2), .v (.string v3), .sl o (v4.map A1.row), .sl o [], .sl o (v6.map (A0.row o)), .v (.string v7)]=(l.set i (A0.mk v0 v1 v2 v3 v4 [] v6 v7)).map (A0.row o):=Pj (A0.row o) l i (A0.mk v0 v1 v2 v3 v4 [] v6 v7) _ (by simp only[A0.row_eq,List.map_nil])
theorem ky (o:Bool) (l:List A0) (rs:Rows) (v0:Int) (v1:ByteArray) (v2:ByteArray) (v3:ByteArray) (v4:List A1) (v6:List A0) (v7:ByteArray):l.map (A0.row o)++([.v (.int .i64 v0), .v (.string v1), .v (.string v2), .v (.string v3), .sl o (v4.map A1.row), .sl o [], .sl o (v6.map (A0.row o)), .v (.string v7)]::rs)=(l++[(A0.mk v0 v1 v2 v3 v4 [] v6 v7)]).map (A0.row o)++rs:=Pk (A0.row o) l (A0.mk v0 v1 v2 v3 v4 [] v6 v7) _ rs (by simp only[A0.row_eq,List.map_nil])
theorem kz (o:Bool) (n:Nat) (v0:Int) (v1:ByteArray) (v2:ByteArray) (v3:ByteArray) (v4:List A1) (v6:List A0) (v7:ByteArray):List.replicate n [T.v (.int .i64 v0),T.v (.string v1),T.v (.string v2),T.v (.string v3),T.sl o (v4.map A1.row),T.sl o [],T.sl o (v6.map (A0.row o)),T.v (.string v7)]=(List.replicate n (A0.mk v0 v1 v2 v3 v4 [] v6 v7)).map (A0.row o):=R9 (A0.row o) n (A0.mk v0 v1 v2 v3 v4 [] v6 v7) _ (by simp only[A0.row_eq,List.map_nil])
theorem l9 (o:Bool) (l:List A0) (i:Nat) (v0:Int) (v1:ByteArray) (v2:ByteArray) (v3:ByteArray) (v6:List A0) (v7:ByteArray):(l.map (A0.row o)).set i [.v (.int .i64 v0), .v (.string v1), .v (.string v2), .v (.string v3), .sl o [], .sl o [], .sl o (v6.map (A0.row o)), .v (.string v7)]=(l.set i (A0.mk v0 v1 v2 v3 [] [] v6 v7)).map (A0.row o):=Pj (A0.row o) l i (A0.mk v0 v1 v2 v3 [] [] v6 v7) _ (by simp only[A0.row_eq,List.map_nil])
theorem lA (o:Bool) (l:List A0) (rs:Rows) (v0:Int) (v1:ByteArray) (v2:ByteArray) (v3:ByteArray) (v6:List A0) (v7:ByteArray):l.map (A0.row o)++([.v (.int .i64 v0), .v (.string v1), .v (.string v2), .v (.string v3), .sl o [], .sl o [], .sl o (v6.map (A0.row o)), .v (.string v7)]::rs)=(l++[(A0.mk v0 v1 v2 v3 [] [] v6 v7)]).map (A0.row o)++rs:=Pk (A0.row o) l (A0.mk v0 v1 v2 v3 [] [] v6 v7) _ rs (by simp only[A0.row_eq,List.map_nil])
theorem lC (o:Bool) (n:Nat) (v0:Int) (v1:ByteArray) (v2:ByteArray) (v3:ByteArray) (v6:List A0) (v7:ByteArray):List.replicate n [T.v (.int .i64 v0),T.v (.string v1),T.v (.string v2),T.v (.string v3),T.sl o [],T.sl o [],T.sl o (v6.map (A0.row o)),T.v (.string v7)]=(List.replicate n (A0.mk v0 v1 v2 v3 [] [] v6 v7)).map (A0.row o):=R9 (A0.row o) n (A0.mk v0 v1 v2 v3 [] [] v6 v7) _ (by simp only[A0.row_eq,List.map_nil])
theorem lD (o:Bool) (l:List A0) (i:Nat) (v0:Int) (v1:ByteArray) (v2:ByteArray) (v3:ByteArray) (v4:List A1) (v5:List A3) (v7:ByteArray):(l.map (A0.row o)).set i [.v (.int .i64 v0), .v (.string v1), .v (.string v2), .v (.string v3), .sl o (v4.map A1.row), .sl o (v5.map A3.row), .sl o [], .v (.string v7)]=(l.set i (A0.mk v0 v1 v2 v3 v4 v5 [] v7)).map (A0.row o):=Pj (A0.row o) l i (A0.mk v0 v1 v2 v3 v4 v5 [] v7) _ (by simp only[A0.row_eq,List.map_nil])
theorem lE (o:Bool) (l:List A0) (rs:Rows) (v0:Int) (v1:ByteArray) (v2:ByteArray) (v3:ByteArray) (v4:List A1) (v5:List A3) (v7:ByteArray):l.map (A0.row o)++([.v (.int .i64 v0), .v (.string v1), .v (.string v2), .v (.string v3), .sl o (v4.map A1.row), .sl o (v5.map A3.row), .sl o [], .v (.string v7)]::rs)=(l++[(A0.mk v0 v1 v2 v3 v4 v5 [] v7)]).map (A0.row o)++rs:=Pk (A0.row o) l (A0.mk v0 v1 v2 v3 v4 v5 [] v7) _ rs (by simp only[A0.row_eq,List.map_nil])
theorem lF (o:Bool) (n:Nat) (v0:Int) (v1:ByteArray) (v2:ByteArray) (v3:ByteArray) (v4:List A1) (v5:List A3) (v7:ByteArray):List.replicate n [T.v (.int .i64 v0),T.v (.string v1),T.v (.string v2),T.v (.string v3),T.sl o (v4.map A1.row),T.sl o (v5.map A3.row),T.sl o [],T.v (.string v7)]=(List.replicate n (A0.mk v0 v1 v2 v3 v4 v5 [] v7)).map (A0.row o):=R9 (A0.row o) n (A0.mk v0 v1 v2 v3 v4 v5 [] v7) _ (by simp only[A0.row_eq,List.map_nil])
theorem lG (o:Bool) (l:List A0) (i:Nat) (v0:Int) (v1:ByteArray) (v2:ByteArray) (v3:ByteArray) (v5:List A3) (v7:ByteArray):(l.map (A0.row o)).set i [.v (.int .i64 v0), .v (.string v1), .v (.string v2), .v (.string v3), .sl o [], .sl o (v5.map A3.row), .sl o [], .v (.string v7)]=(l.set i (A0.mk v0 v1 v2 v3 [] v5 [] v7)).map (A0.row o):=Pj (A0.row o) l i (A0.mk v0 v1 v2 v3 [] v5 [] v7) _ (by simp only[A0.row_eq,List.map_nil])
theorem lH (o:Bool) (l:List A0) (rs:Rows) (v0:Int) (v1:ByteArray) (v2:ByteArray) (v3:ByteArray) (v5:List A3) (v7:ByteArray):l.map (A0.row o)++([.v (.int .i64 v0), .v (.string v1), .v (.string v2), .v (.string v3), .sl o [], .sl o (v5.map A3.row), .sl o [], .v (.string v7)]::rs)=(l++[(A0.mk v0 v1 v2 v3 [] v5 [] v7)]).map (A0.row o)++rs:=Pk (A0.row o) l (A0.mk v0 v1 v2 v3 [] v5 [] v7) _ rs (by simp only[A0.row_eq,List.map_nil])
theorem lI (o:Bool) (n:Nat) (v0:Int) (v1:ByteArray) (v2:ByteArray) (v3:ByteArray) (v5:List A3) (v7:ByteArray):List.replicate n [T.v (.int .i64 v0),T.v (.string v1),T.v (.string v2),T.v (.string v3),T.sl o [],T.sl o (v5.map A3.row),T.sl o [],T.v (.string v7)]=(List.replicate n (A0.mk v0 v1 v2 v3 [] v5 [] v7)).map (A0.row o):=R9 (A0.row o) n (A0.mk v0 v1 v2 v3 [] v5 [] v7) _ (by simp only[A0.row_eq,List.map_nil])
theorem lJ (o:Bool) (l:List A0) (i:Nat) (v0:Int) (v1:ByteArray) (v2:ByteArray) (v3:ByteArray) (v4:List A1) (v7:ByteArray):(l.map (A0.row o)).set i [.v (.int .i64 v0), .v (.string v1), .v (.string v2), .v (.string v3), .sl o (v4.map A1.row), .sl o [], .sl o [], .v (.string v7)]=(l.set i (A0.mk v0 v1 v2 v3 v4 [] [] v7)).map (A0.row o):=Pj (A0.row o) l i (A0.mk v0 v1 v2 v3 v4 [] [] v7) _ (by simp only[A0.row_eq,List.map_nil])
theorem lK (o:Bool) (l:List A0) (rs:Rows) (v0:Int) (v1:ByteArray) (v2:ByteArray) (v3:ByteArray) (v4:List A1) (v7:ByteArray):l.map (A0.row o)++([.v (.int .i64 v0), .v (.string v1), .v (.string v2), .v (.string v3), .sl o (v4.map A1.row), .sl o [], .sl o [], .v (.string v7)]::rs)=(l++[(A0.mk v0 v1 v2 v3 v4 [] [] v7)]).map (A0.row o)++rs:=Pk (A0.row o) l (A0.mk v0 v1 v2 v3 v4 [] [] v7) _ rs (by simp only[A0.row_eq,List.map_nil])
theorem lL (o:Bool) (n:Nat) (v0:Int) (v1:ByteArray) (v2:ByteArray) (v3:ByteArray) (v4:List A1) (v7:ByteArray):List.replicate n [T.v (.int .i64 v0),T.v (.string v1),T.v (.string v2),T.v (.string v3),T.sl o (v4.map A1.row),T.sl o [],T.sl o [],T.v (.string v7)]=(List.replicate n (A0.mk v0 v1 v2 v3 v4 [] [] v7)).map (A0.row o):=R9 (A0.row o) n (A0.mk v0 v1 v2 v3 v4 [] [] v7) _ (by simp only[A0.row_eq,List.map_nil])
theorem lM (o:Bool) (l:List A0) (i:Nat) (v0:Int) (v1:ByteArray) (v2:ByteArray) (v3:ByteArray) (v7:ByteArray):(l.map (A0.row o)).set i [.v (.int .i64 v0), .v (.string v1), .v (.string v2), .v (.string v3), .sl o [], .sl o [], .sl o [], .v (.string v7)]=(l.set i (A0.mk v0 v1 v2 v3 [] [] [] v7)).map (A0.row o):=Pj (A0.row o) l i (A0.mk v0 v1 v2 v3 [] [] [] v7) _ (by simp only[A0.row_eq,List.map_nil])
theorem lN (o:Bool) (l:List A0) (rs:Rows) (v0:Int) (v1:ByteArray) (v2:ByteArray) (v3:ByteArray) (v7:ByteArray):l.map (A0.row o)++([.v (.int .i64 v0), .v (.string v1), .v (.string v2), .v (.string v3), .sl o [], .sl o [], .sl o [], .v (.string v7)]::rs)=(l++[(A0.mk v0 v1 v2 v3 [] [] [] v7)]).map (A0.row o)++rs:=Pk (A0.row o) l (A0.mk v0 v1 v2 v3 [] [] [] v7) _ rs (by simp only[A0.row_eq,List.map_nil])
theorem lO (o:Bool) (n:Nat) (v0:Int) (v1:ByteArray) (v2:ByteArray) (v3:ByteArray) (v7:ByteArray):List.replicate n [T.v (.int .i64 v0),T.v (.string v1),T.v (.string v2),T.v (.string v3),T.sl o [],T.sl o [],T.sl o [],T.v (.string v7)]=(List.replicate n (A0.mk v0 v1 v2 v3 [] [] [] v7)).map (A0.row o):=R9 (A0.row o) n (A0.mk v0 v1 v2 v3 [] [] [] v7) _ (by simp only[A0.row_eq,List.map_nil])
theorem ZI (x:A0):A0.mk x.Kind x.Pre x.Local x.Uri x.Decls x.Attrs x.Kids x.Text=x:=by cases x;rfl
structure A5 where
 xb:List Int
 xi:Int
 xh:Int
def A5.row (o:Bool) (x:A5):List T:=[.sl o (x.xb.map (rK .u8)), .v (.int .i64 x.xi), .v (.int .i64 x.xh)]
theorem A5.row_eq (o:Bool) (x:A5):A5.row o x=[.sl o (x.xb.map (rK .u8)), .v (.int .i64 x.xi), .v (.int .i64 x.xh)]:=rfl
theorem rR (o:Bool) (l:List A5):AZ (l.map (A5.row o))=l.map (A5.row false):=FX _ _ (fun x=>by simp only[A5.row,Fm,frz,KP,LM,LN,LO,ID]) l
theorem rT (l:List A5):Aw (l.map (A5.row true))=true:=FY _ (fun x=>by simp only[A5.row,Cg,allOwn,KQ,LP,LQ,LR,IE,Bool.and_self]) l
theorem rU (o:Bool) (l:List A5):((l.map (A5.row o)).all fun r=>r.length==3)=true:=Ds _ _ (fun x=>by rfl) l
theorem rV (o:Bool) (l l':List A5):((l.map (A5.row o)).map (·.length)=(l'.map (A5.row o)).map (·.length))=((if l.length=l'.length then some ()else none)=some ()):=GY (A5.row o) 3 (fun x=>by rfl) l l'
theorem rW (x:A5):A5.mk x.xb x.xi x.xh=x:=by cases x;rfl
structure Fg where
 Name:ByteArray
 Val:ByteArray
def Fg.row (x:Fg):List T:=[.v (.string x.Name), .v (.string x.Val)]
theorem Fg.row_eq (x:Fg):Fg.row x=[.v (.string x.Name), .v (.string x.Val)]:=rfl
theorem dG (l:List Fg):AZ (l.map Fg.row)=l.map Fg.row:=FX _ _ (fun x=>by simp only[Fg.row,Fm,frz,KP,LM,LN,LO,ID]) l
theorem dH (l:List Fg):Aw (l.map Fg.row)=true:=FY _ (fun x=>by simp only[Fg.row,Cg,allOwn,KQ,LP,LQ,LR,IE,Bool.and_self]) l
theorem zQ (l:List Fg):((l.map Fg.row).all fun r=>r.length==2)=true:=Ds _ _ (fun x=>by rfl) l
theorem zR (l l':List Fg):((l.map Fg.row).map (·.length)=(l'.map Fg.row).map (·.length))=((if l.length=l'.length then some ()else none)=some ()):=GY Fg.row 2 (fun x=>by rfl) l l'
theorem zS (x:Fg):Fg.mk x.Name x.Val=x:=by cases x;rfl
structure Bh where
 El:ByteArray
 At:ByteArray
 Id:Bool
 Has:Bool
 Val:ByteArray
def Bh.row (x:Bh):List T:=[.v (.string x.El), .v (.string x.At), .v (.bool x.Id), .v (.bool x.Has), .v (.string x.Val)]
theorem Bh.row_eq (x:Bh):Bh.row x=[.v (.string x.El), .v (.string x.At), .v (.bool x.Id), .v (.bool x.Has), .v (.string x.Val)]:=rfl
theorem dI (l:List Bh):AZ (l.map Bh.row)=l.map Bh.row:=FX _ _ (fun x=>by simp only[Bh.row,Fm,frz,KP,LM,LN,LO,ID]) l
theorem dJ (l:List Bh):Aw (l.map Bh.row)=true:=FY _ (fun x=>by simp only[Bh.row,Cg,allOwn,KQ,LP,LQ,LR,IE,Bool.and_self]) l
theorem zT (l:List Bh):((l.map Bh.row).all fun r=>r.length==5)=true:=Ds _ _ (fun x=>by rfl) l
theorem zU (l l':List Bh):((l.map Bh.row).map (·.length)=(l'.map Bh.row).map (·.length))=((if l.length=l'.length then some ()else none)=some ()):=GY Bh.row 5 (fun x=>by rfl) l l'
theorem oK (l:List Bh) (i:Nat) (v0:ByteArray) (v1:ByteArray) (v2:Bool) (v3:Bool) (v4:ByteArray):(l.map Bh.row).set i [.v (.string v0), .v (.string v1), .v (.bool v2), .v (.bool v3), .v (.string v4)]=(l.set i (Bh.mk v0 v1 v2 v3 v4)).map Bh.row:=Pj Bh.row l i (Bh.mk v0 v1 v2 v3 v4) _ (by simp only[Bh.row_eq])
theorem oN (l:List Bh) (rs:Rows) (v0:ByteArray) (v1:ByteArray) (v2:Bool) (v3:Bool) (v4:ByteArray):l.map Bh.row++([.v (.string v0), .v (.string v1), .v (.bool v2), .v (.bool v3), .v (.string v4)]::rs)=(l++[(Bh.mk v0 v1 v2 v3 v4)]).map Bh.row++rs:=Pk Bh.row l (Bh.mk v0 v1 v2 v3 v4) _ rs (by simp only[Bh.row_eq])
theorem oO (n:Nat) (v0:ByteArray) (v1:ByteArray) (v2:Bool) (v3:Bool) (v4:ByteArray):List.replicate n [T.v (.string v0),T.v (.string v1),T.v (.bool v2),T.v (.bool v3),T.v (.string v4)]=(List.replicate n (Bh.mk v0 v1 v2 v3 v4)).map Bh.row:=R9 Bh.row n (Bh.mk v0 v1 v2 v3 v4) _ (by simp only[Bh.row_eq])
theorem zW (x:Bh):Bh.mk x.El x.At x.Id x.Has x.Val=x:=by cases x;rfl
structure D2 where
 Name:ByteArray
 Ents:List Fg
 Defs:List Bh
def D2.row (o:Bool) (x:D2):List T:=[.v (.string x.Name), .sl o (x.Ents.map Fg.row), .sl o (x.Defs.map Bh.row)]
theorem D2.row_eq (o:Bool) (x:D2):D2.row o x=[.v (.string x.Name), .sl o (x.Ents.map Fg.row), .sl o (x.Defs.map Bh.row)]:=rfl
theorem ub (o:Bool) (l:List D2):AZ (l.map (D2.row o))=l.map (D2.row false):=FX _ _ (fun x=>by simp only[D2.row,Fm,frz,KP,LM,LN,LO,ID,dI,dG]) l
theorem uc (l:List D2):Aw (l.map (D2.row true))=true:=FY _ (fun x=>by simp only[D2.row,Cg,allOwn,KQ,LP,LQ,LR,IE,dJ,dH,Bool.and_self]) l
theorem ud (o:Bool) (l:List D2):((l.map (D2.row o)).all fun r=>r.length==3)=true:=Ds _ _ (fun x=>by rfl) l
theorem ue (o:Bool) (l l':List D2):((l.map (D2.row o)).map (·.length)=(l'.map (D2.row o)).map (·.length))=((if l.length=l'.length then some ()else none)=some ()):=GY (D2.row o) 3 (fun x=>by rfl) l l'
theorem uf (x:D2):D2.mk x.Name x.Ents x.Defs=x:=by cases x;rfl
structure AH where
 Kind:Int
 N:Int
 Pre:ByteArray
 Local:ByteArray
 Val:ByteArray
def AH.row (x:AH):List T:=[.v (.int .i64 x.Kind), .v (.int .i64 x.N), .v (.string x.Pre), .v (.string x.Local), .v (.string x.Val)]
theorem AH.row_eq (x:AH):AH.row x=[.v (.int .i64 x.Kind), .v (.int .i64 x.N), .v (.string x.Pre), .v (.string x.Local), .v (.string x.Val)]:=rfl
theorem jR (l:List AH):AZ (l.map AH.row)=l.map AH.row:=FX _ _ (fun x=>by simp only[AH.row,Fm,frz,KP,LM,LN,LO,ID]) l
theorem jS (l:List AH):Aw (l.map AH.row)=true:=FY _ (fun x=>by simp only[AH.row,Cg,allOwn,KQ,LP,LQ,LR,IE,Bool.and_self]) l
theorem ug (l:List AH):((l.map AH.row).all fun r=>r.length==5)=true:=Ds _ _ (fun x=>by rfl) l
theorem uh (l l':List AH):((l.map AH.row).map (·.length)=(l'.map AH.row).map (·.length))=((if l.length=l'.length then some ()else none)=some ()):=GY AH.row 5 (fun x=>by rfl) l l'
theorem lP (l:List AH) (i:Nat) (v0:Int) (v1:Int) (v2:ByteArray) (v3:ByteArray) (v4:ByteArray):(l.map AH.row).set i [.v (.int .i64 v0), .v (.int .i64 v1), .v (.string v2), .v (.string v3), .v (.string v4)]=(l.set i (AH.mk v0 v1 v2 v3 v4)).map AH.row:=Pj AH.row l i (AH.mk v0 v1 v2 v3 v4) _ (by simp only[AH.row_eq])
theorem lQ (l:List AH) (rs:Rows) (v0:Int) (v1:Int) (v2:ByteArray) (v3:ByteArray) (v4:ByteArray):l.map AH.row++([.v (.int .i64 v0), .v (.int .i64 v1), .v (.string v2), .v (.string v3), .v (.string v4)]::rs)=(l++[(AH.mk v0 v1 v2 v3 v4)]).map AH.row++rs:=Pk AH.row l (AH.mk v0 v1 v2 v3 v4) _ rs (by simp only[AH.row_eq])
theorem lR (n:Nat) (v0:Int) (v1:Int) (v2:ByteArray) (v3:ByteArray) (v4:ByteArray):List.replicate n [T.v (.int .i64 v0),T.v (.int .i64 v1),T.v (.string v2),T.v (.string v3),T.v (.string v4)]=(List.replicate n (AH.mk v0 v1 v2 v3 v4)).map AH.row:=R9 AH.row n (AH.mk v0 v1 v2 v3 v4) _ (by simp only[AH.row_eq])
theorem ui (x:AH):AH.mk x.Kind x.N x.Pre x.Local x.Val=x:=by cases x;rfl
structure AJ where
 Deep:Bool
 Kind:Int
 Pre:ByteArray
 Local:ByteArray
 Preds:List AH
def AJ.row (o:Bool) (x:AJ):List T:=[.v (.bool x.Deep), .v (.int .i64 x.Kind), .v (.string x.Pre), .v (.string x.Local), .sl o (x.Preds.map AH.row)]
theorem AJ.row_eq (o:Bool) (x:AJ):AJ.row o x=[.v (.bool x.Deep), .v (.int .i64 x.Kind), .v (.string x.Pre), .v (.string x.Local), .sl o (x.Preds.map AH.row)]:=rfl
theorem oP (o:Bool) (l:List AJ):AZ (l.map (AJ.row o))=l.map (AJ.row false):=FX _ _ (fun x=>by simp only[AJ.row,Fm,frz,KP,LM,LN,LO,ID,jR]) l
theorem oQ (l:List AJ):Aw (l.map (AJ.row true))=true:=FY _ (fun x=>by simp only[AJ.row,Cg,allOwn,KQ,LP,LQ,LR,IE,jS,Bool.and_self]) l
theorem zX (o:Bool) (l:List AJ):((l.map (AJ.row o)).all fun r=>r.length==5)=true:=Ds _ _ (fun x=>by rfl) l
theorem zY (o:Bool) (l l':List AJ):((l.map (AJ.row o)).map (·.length)=(l'.map (AJ.row o)).map (·.length))=((if l.length=l'.length then some ()else none)=some ()):=GY (AJ.row o) 5 (fun x=>by rfl) l l'
theorem oR (o:Bool) (l:List AJ) (i:Nat) (v0:Bool) (v1:Int) (v2:ByteArray) (v3:ByteArray) (v4:List AH):(l.map (AJ.row o)).set i [.v (.bool v0), .v (.int .i64 v1), .v (.string v2), .v (.string v3), .sl o (v4.map AH.row)]=(l.set i (AJ.mk v0 v1 v2 v3 v4)).map (AJ.row o):=Pj (AJ.row o) l i (AJ.mk v0 v1 v2 v3 v4) _ (by simp only[AJ.row_eq])
theorem oS (o:Bool) (l:List AJ) (rs:Rows) (v0:Bool) (v1:Int) (v2:ByteArray) (v3:ByteArray) (v4:List AH):l.map (AJ.row o)++([.v (.bool v0), .v (.int .i64 v1), .v (.string v2), .v (.string v3), .sl o (v4.map AH.row)]::rs)=(l++[(AJ.mk v0 v1 v2 v3 v4)]).map (AJ.row o)++rs:=Pk (AJ.row o) l (AJ.mk v0 v1 v2 v3 v4) _ rs (by simp only[AJ.row_eq])
theorem oT (o:Bool) (n:Nat) (v0:Bool) (v1:Int) (v2:ByteArray) (v3:ByteArray) (v4:List AH):List.replicate n [T.v (.bool v0),T.v (.int .i64 v1),T.v (.string v2),T.v (.string v3),T.sl o (v4.map AH.row)]=(List.replicate n (AJ.mk v0 v1 v2 v3 v4)).map (AJ.row o):=R9 (AJ.row o) n (AJ.mk v0 v1 v2 v3 v4) _ (by simp only[AJ.row_eq])
theorem oU (o:Bool) (l:List AJ) (i:Nat) (v0:Bool) (v1:Int) (v2:ByteArray) (v3:ByteArray):(l.map (AJ.row o)).set i [.v (.bool v0), .v (.int .i64 v1), .v (.string v2), .v (.string v3), .sl o []]=(l.set i (AJ.mk v0 v1 v2 v3 [])).map (AJ.row o):=Pj (AJ.row o) l i (AJ.mk v0 v1 v2 v3 []) _ (by simp only[AJ.row_eq,List.map_nil])
theorem oV (o:Bool) (l:List AJ) (rs:Rows) (v0:Bool) (v1:Int) (v2:ByteArray) (v3:ByteArray):l.map (AJ.row o)++([.v (.bool v0), .v (.int .i64 v1), .v (.string v2), .v (.string v3), .sl o []]::rs)=(l++[(AJ.mk v0 v1 v2 v3 [])]).map (AJ.row o)++rs:=Pk (AJ.row o) l (AJ.mk v0 v1 v2 v3 []) _ rs (by simp only[AJ.row_eq,List.map_nil])
theorem oW (o:Bool) (n:Nat) (v0:Bool) (v1:Int) (v2:ByteArray) (v3:ByteArray):List.replicate n [T.v (.bool v0),T.v (.int .i64 v1),T.v (.string v2),T.v (.string v3),T.sl o []]=(List.replicate n (AJ.mk v0 v1 v2 v3 [])).map (AJ.row o):=R9 (AJ.row o) n (AJ.mk v0 v1 v2 v3 []) _ (by simp only[AJ.row_eq,List.map_nil])
theorem oX (o:Bool) (l:List AJ) (i:Nat) (v0:Bool) (v1:Int) (v2:ByteArray) (v3:ByteArray) (v4Kind:Int) (v4N:Int) (v4Pre:ByteArray) (v4Local:ByteArray) (v4Val:ByteArray):(l.map (AJ.row o)).set i [.v (.bool v0), .v (.int .i64 v1), .v (.string v2), .v (.string v3), .sl o [[.v (.int .i64 v4Kind), .v (.int .i64 v4N), .v (.string v4Pre), .v (.string v4Local), .v (.string v4Val)]]]=(l.set i (AJ.mk v0 v1 v2 v3 [AH.mk v4Kind v4N v4Pre v4Local v4Val])).map (AJ.row o):=Pj (AJ.row o) l i (AJ.mk v0 v1 v2 v3 [AH.mk v4Kind v4N v4Pre v4Local v4Val]) _ (by simp only[AJ.row_eq,List.map_cons,List.map_nil,AH.row_eq])
theorem oY (o:Bool) (l:List AJ) (rs:Rows) (v0:Bool) (v1:Int) (v2:ByteArray) (v3:ByteArray) (v4Kind:Int) (v4N:Int) (v4Pre:ByteArray) (v4Local:ByteArray) (v4Val:ByteArray):l.map (AJ.row o)++([.v (.bool v0), .v (.int .i64 v1), .v (.string v2), .v (.string v3), .sl o [[.v (.int .i64 v4Kind), .v (.int .i64 v4N), .v (.string v4Pre), .v (.string v4Local), .v (.string v4Val)]]]::rs)=(l++[(AJ.mk v0 v1 v2 v3 [AH.mk v4Kind v4N v4Pre v4Local v4Val])]).map (AJ.row o)++rs:=Pk (AJ.row o) l (AJ.mk v0 v1 v2 v3 [AH.mk v4Kind v4N v4Pre v4Local v4Val]) _ rs (by simp only[AJ.row_eq,List.map_cons,List.map_nil,AH.row_eq])
theorem oZ (o:Bool) (n:Nat) (v0:Bool) (v1:Int) (v2:ByteArray) (v3:ByteArray) (v4Kind:Int) (v4N:Int) (v4Pre:ByteArray) (v4Local:ByteArray) (v4Val:ByteArray):List.replicate n [T.v (.bool v0),T.v (.int .i64 v1),T.v (.string v2),T.v (.string v3),T.sl o [[.v (.int .i64 v4Kind), .v (.int .i64 v4N), .v (.string v4Pre), .v (.string v4Local), .v (.string v4Val)]]]=(List.replicate n (AJ.mk v0 v1 v2 v3 [AH.mk v4Kind v4N v4Pre v4Local v4Val])).map (AJ.row o):=R9 (AJ.row o) n (AJ.mk v0 v1 v2 v3 [AH.mk v4Kind v4N v4Pre v4Local v4Val]) _ (by simp only[AJ.row_eq,List.map_cons,List.map_nil,AH.row_eq])
theorem zZ (x:AJ):AJ.mk x.Deep x.Kind x.Pre x.Local x.Preds=x:=by cases x;rfl
structure Eh where
 Id:ByteArray
 Steps:List AJ
def Eh.row (o:Bool) (x:Eh):List T:=[.v (.string x.Id), .sl o (x.Steps.map (AJ.row o))]
theorem Eh.row_eq (o:Bool) (x:Eh):Eh.row o x=[.v (.string x.Id), .sl o (x.Steps.map (AJ.row o))]:=rfl
theorem za (o:Bool) (l:List Eh):AZ (l.map (Eh.row o))=l.map (Eh.row false):=FX _ _ (fun x=>by simp only[Eh.row,Fm,frz,KP,LM,LN,LO,ID,oP]) l
theorem zb (l:List Eh):Aw (l.map (Eh.row true))=true:=FY _ (fun x=>by simp only[Eh.row,Cg,allOwn,KQ,LP,LQ,LR,IE,oQ,Bool.and_self]) l
theorem zd (o:Bool) (l:List Eh):((l.map (Eh.row o)).all fun r=>r.length==2)=true:=Ds _ _ (fun x=>by rfl) l
theorem ze (o:Bool) (l l':List Eh):((l.map (Eh.row o)).map (·.length)=(l'.map (Eh.row o)).map (·.length))=((if l.length=l'.length then some ()else none)=some ()):=GY (Eh.row o) 2 (fun x=>by rfl) l l'
theorem zf (x:Eh):Eh.mk x.Id x.Steps=x:=by cases x;rfl
structure A8 where
 xa0:Int
 xa1:Int
def A8.row (x:A8):List T:=[.v (.int .i64 x.xa0), .v (.int .i64 x.xa1)]
theorem A8.row_eq (x:A8):A8.row x=[.v (.int .i64 x.xa0), .v (.int .i64 x.xa1)]:=rfl
theorem lS (l:List A8):AZ (l.map A8.row)=l.map A8.row:=FX _ _ (fun x=>by simp only[A8.row,Fm,frz,KP,LM,LN,LO,ID]) l
theorem lU (l:List A8):Aw (l.map A8.row)=true:=FY _ (fun x=>by simp only[A8.row,Cg,allOwn,KQ,LP,LQ,LR,IE,Bool.and_self]) l
theorem lV (l:List A8):((l.map A8.row).all fun r=>r.length==2)=true:=Ds _ _ (fun x=>by rfl) l
theorem lW (l l':List A8):((l.map A8.row).map (·.length)=(l'.map A8.row).map (·.length))=((if l.length=l'.length then some ()else none)=some ()):=GY A8.row 2 (fun x=>by rfl) l l'
theorem aq (l:List A8) (i:Nat) (v0:Int) (v1:Int):(l.map A8.row).set i [.v (.int .i64 v0), .v (.int .i64 v1)]=(l.set i (A8.mk v0 v1)).map A8.row:=Pj A8.row l i (A8.mk v0 v1) _ (by simp only[A8.row_eq])
theorem au (l:List A8) (rs:Rows) (v0:Int) (v1:Int):l.map A8.row++([.v (.int .i64 v0), .v (.int .i64 v1)]::rs)=(l++[(A8.mk v0 v1)]).map A8.row++rs:=Pk A8.row l (A8.mk v0 v1) _ rs (by simp only[A8.row_eq])
theorem av (n:Nat) (v0:Int) (v1:Int):List.replicate n [T.v (.int .i64 v0),T.v (.int .i64 v1)]=(List.replicate n (A8.mk v0 v1)).map A8.row:=R9 A8.row n (A8.mk v0 v1) _ (by simp only[A8.row_eq])
theorem lX (x:A8):A8.mk x.xa0 x.xa1=x:=by cases x;rfl
structure AP where
 xt:A0
 xh:D2
 xl:List A1
def AP.row (o:Bool) (x:AP):List T:=[.v (.int .i64 x.xt.Kind), .v (.string x.xt.Pre), .v (.string x.xt.Local), .v (.string x.xt.Uri), .sl o (x.xt.Decls.map A1.row), .sl o (x.xt.Attrs.map A3.row), .sl o (x.xt.Kids.map (A0.row o)), .v (.string x.xt.Text), .v (.string x.xh.Name), .sl o (x.xh.Ents.map Fg.row), .sl o (x.xh.Defs.map Bh.row), .sl o (x.xl.map A1.row)]
theorem AP.row_eq (o:Bool) (x:AP):AP.row o x=[.v (.int .i64 x.xt.Kind), .v (.string x.xt.Pre), .v (.string x.xt.Local), .v (.string x.xt.Uri), .sl o (x.xt.Decls.map A1.row), .sl o (x.xt.Attrs.map A3.row), .sl o (x.xt.Kids.map (A0.row o)), .v (.string x.xt.Text), .v (.string x.xh.Name), .sl o (x.xh.Ents.map Fg.row), .sl o (x.xh.Defs.map Bh.row), .sl o (x.xl.map A1.row)]:=rfl
theorem oa (o:Bool) (l:List AP):AZ (l.map (AP.row o))=l.map (AP.row false):=FX _ _ (fun x=>by simp only[AP.row,Fm,frz,KP,LM,LN,LO,ID,ZG,ZE,dI,dG,jP]) l
theorem oc (l:List AP):Aw (l.map (AP.row true))=true:=FY _ (fun x=>by simp only[AP.row,Cg,allOwn,KQ,LP,LQ,LR,IE,ZH,ZF,dJ,dH,jQ,Bool.and_self]) l
theorem od (o:Bool) (l:List AP):((l.map (AP.row o)).all fun r=>r.length==12)=true:=Ds _ _ (fun x=>by rfl) l
theorem oe (o:Bool) (l l':List AP):((l.map (AP.row o)).map (·.length)=(l'.map (AP.row o)).map (·.length))=((if l.length=l'.length then some ()else none)=some ()):=GY (AP.row o) 12 (fun x=>by rfl) l l'
theorem og (x:AP):AP.mk x.xt x.xh x.xl=x:=by cases x;rfl
structure AS where
 Path:List Int
 Kind:Int
 I:Int
def AS.row (o:Bool) (x:AS):List T:=[.sl o (x.Path.map rI), .v (.int .i64 x.Kind), .v (.int .i64 x.I)]
theorem AS.row_eq (o:Bool) (x:AS):AS.row o x=[.sl o (x.Path.map rI), .v (.int .i64 x.Kind), .v (.int .i64 x.I)]:=rfl
theorem uj (o:Bool) (l:List AS):AZ (l.map (AS.row o))=l.map (AS.row false):=FX _ _ (fun x=>by simp only[AS.row,Fm,frz,KP,LM,LN,LO,ID]) l
theorem uk (l:List AS):Aw (l.map (AS.row true))=true:=FY _ (fun x=>by simp only[AS.row,Cg,allOwn,KQ,LP,LQ,LR,IE,Bool.and_self]) l
theorem ul (o:Bool) (l:List AS):((l.map (AS.row o)).all fun r=>r.length==3)=true:=Ds _ _ (fun x=>by rfl) l
theorem um (o:Bool) (l l':List AS):((l.map (AS.row o)).map (·.length)=(l'.map (AS.row o)).map (·.length))=((if l.length=l'.length then some ()else none)=some ()):=GY (AS.row o) 3 (fun x=>by rfl) l l'
theorem lY (o:Bool) (l:List AS) (i:Nat) (v0:List Int) (v1:Int) (v2:Int):(l.map (AS.row o)).set i [.sl o (v0.map rI), .v (.int .i64 v1), .v (.int .i64 v2)]=(l.set i (AS.mk v0 v1 v2)).map (AS.row o):=Pj (AS.row o) l i (AS.mk v0 v1 v2) _ (by simp only[AS.row_eq])
theorem lZ (o:Bool) (l:List AS) (rs:Rows) (v0:List Int) (v1:Int) (v2:Int):l.map (AS.row o)++([.sl o (v0.map rI), .v (.int .i64 v1), .v (.int .i64 v2)]::rs)=(l++[(AS.mk v0 v1 v2)]).map (AS.row o)++rs:=Pk (AS.row o) l (AS.mk v0 v1 v2) _ rs (by simp only[AS.row_eq])
theorem la (o:Bool) (n:Nat) (v0:List Int) (v1:Int) (v2:Int):List.replicate n [T.sl o (v0.map rI),T.v (.int .i64 v1),T.v (.int .i64 v2)]=(List.replicate n (AS.mk v0 v1 v2)).map (AS.row o):=R9 (AS.row o) n (AS.mk v0 v1 v2) _ (by simp only[AS.row_eq])
theorem lg (o:Bool) (l:List AS) (i:Nat) (v1:Int) (v2:Int):(l.map (AS.row o)).set i [.sl o [], .v (.int .i64 v1), .v (.int .i64 v2)]=(l.set i (AS.mk [] v1 v2)).map (AS.row o):=Pj (AS.row o) l i (AS.mk [] v1 v2) _ (by simp only[AS.row_eq,List.map_nil])
theorem lh (o:Bool) (l:List AS) (rs:Rows) (v1:Int) (v2:Int):l.map (AS.row o)++([.sl o [], .v (.int .i64 v1), .v (.int .i64 v2)]::rs)=(l++[(AS.mk [] v1 v2)]).map (AS.row o)++rs:=Pk (AS.row o) l (AS.mk [] v1 v2) _ rs (by simp only[AS.row_eq,List.map_nil])
theorem li (o:Bool) (n:Nat) (v1:Int) (v2:Int):List.replicate n [T.sl o [],T.v (.int .i64 v1),T.v (.int .i64 v2)]=(List.replicate n (AS.mk [] v1 v2)).map (AS.row o):=R9 (AS.row o) n (AS.mk [] v1 v2) _ (by simp only[AS.row_eq,List.map_nil])
theorem uo (x:AS):AS.mk x.Path x.Kind x.I=x:=by cases x;rfl
def RS := And.intro (@A1.row_eq)<|And.intro (@kh)<|And.intro (@ki)<|And.intro (@kj)<|And.intro (@uV)<|And.intro (@ZE)<|And.intro (@ZF)<|And.intro (@uT)<|And.intro (@uU)<|And.intro (@A3.row_eq)<|And.intro (@kl)<|And.intro (@km)<|And.intro (@kn)<|And.intro (@uY)<|And.intro (@ZG)<|And.intro (@ZH)<|And.intro (@uW)<|And.intro (@uX)<|And.intro (@A0.row_eq)<|And.intro (@ko)<|And.intro (@kq)<|And.intro (@kr)<|And.intro (@ku)<|And.intro (@kv)<|And.intro (@kw)<|And.intro (@kx)<|And.intro (@ky)<|And.intro (@kz)<|And.intro (@l9)<|And.intro (@lA)<|And.intro (@lC)<|And.intro (@lD)<|And.intro (@lE)<|And.intro (@lF)<|And.intro (@lG)<|And.intro (@lH)<|And.intro (@lI)<|And.intro (@lJ)<|And.intro (@lK)<|And.intro (@lL)<|And.intro (@lM)<|And.intro (@lN)<|And.intro (@lO)<|And.intro (@ZI)<|And.intro (@jP)<|And.intro (@jQ)<|And.intro (@uZ)<|And.intro (@ua)<|And.intro (@A5.row_eq)<|And.intro (@rW)<|And.intro (@rR)<|And.intro (@rT)<|And.intro (@rU)<|And.intro (@rV)<|And.intro (@Fg.row_eq)<|And.intro (@zS)<|And.intro (@dG)<|And.intro (@dH)<|And.intro (@zQ)<|And.intro (@zR)<|And.intro (@Bh.row_eq)<|And.intro (@oK)<|And.intro (@oN)<|And.intro (@oO)<|And.intro (@zW)<|And.intro (@dI)<|And.intro (@dJ)<|And.intro (@zT)<|And.intro (@zU)<|And.intro (@D2.row_eq)<|And.intro (@uf)<|And.intro (@ub)<|And.intro (@uc)<|And.intro (@ud)<|And.intro (@ue)<|And.intro (@AH.row_eq)<|And.intro (@lP)<|And.intro (@lQ)<|And.intro (@lR)<|And.intro (@ui)<|And.intro (@jR)<|And.intro (@jS)<|And.intro (@ug)<|And.intro (@uh)<|And.intro (@AJ.row_eq)<|And.intro (@oR)<|And.intro (@oS)<|And.intro (@oT)<|And.intro (@oU)<|And.intro (@oV)<|And.intro (@oW)<|And.intro (@oX)<|And.intro (@oY)<|And.intro (@oZ)<|And.intro (@zZ)<|And.intro (@oP)<|And.intro (@oQ)<|And.intro (@zX)<|And.intro (@zY)<|And.intro (@Eh.row_eq)<|And.intro (@zf)<|And.intro (@za)<|And.intro (@zb)<|And.intro (@zd)<|And.intro (@ze)<|And.intro (@A8.row_eq)<|And.intro (@aq)<|And.intro (@au)<|And.intro (@av)<|And.intro (@lX)<|And.intro (@lS)<|And.intro (@lU)<|And.intro (@lV)<|And.intro (@lW)<|And.intro (@AP.row_eq)<|And.intro (@og)<|And.intro (@oa)<|And.intro (@oc)<|And.intro (@od)<|And.intro (@oe)<|And.intro (@AS.row_eq)<|And.intro (@lY)<|And.intro (@lZ)<|And.intro (@la)<|And.intro (@lg)<|And.intro (@lh)<|And.intro (@li)<|And.intro (@uo)<|And.intro (@uj)<|And.intro (@uk)<|And.intro (@ul)<|(@um)
end TT
