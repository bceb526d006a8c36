import Derived.Test.YtpmnlfgdicmiiaaGreatDoorTH4
import Derived.Test.YtpmnlfgdicmiiaaGreatDoorTHX4
set_option maxHeartbeats 2000000
set_option linter.unusedVariables false
set_option linter.unusedSimpArgs false
set_option linter.defProp false
set_option maxRecDepth 100000
namespace TT
open Go
structure A2 where
 Pre:ByteArray
 Uri:ByteArray
def A2.row (x:A2):List T:=[.v (.string x.Pre), .v (.string x.Uri)]
theorem A2.row_eq (x:A2):A2.row x=[.v (.string x.Pre), .v (.string x.Uri)]:=rfl
theorem fC (l:List A2):Az (l.map A2.row)=l.map A2.row:=Gs _ _ (fun x=>by simp only[A2.row,HF,frz,Mn,Nl,Nm,Nn,K1]) l
theorem fD (l:List A2):Bc (l.map A2.row)=true:=Gu _ (fun x=>by simp only[A2.row,De,allOwn,Mo,No,Np,Nq,K3,Bool.and_self]) l
theorem A1J (l:List A2):((l.map A2.row).all fun r=>r.length==2)=true:=Er _ _ (fun x=>by rfl) l
theorem A1K (l l':List A2):((l.map A2.row).map (·.length)=(l'.map A2.row).map (·.length))=((if l.length=l'.length then some ()else none)=some ()):=IG A2.row 2 (fun x=>by rfl) l l'
theorem sG (l:List A2) (i:Nat) (v0 v1:ByteArray):(l.map A2.row).set i [.v (.string v0), .v (.string v1)]=(l.set i (A2.mk v0 v1)).map A2.row:=Sw A2.row l i (A2.mk v0 v1) _ (by simp only[A2.row_eq])
theorem sH (l:List A2) (rs:Rows) (v0 v1:ByteArray):l.map A2.row++([.v (.string v0), .v (.string v1)]::rs)=(l++[(A2.mk v0 v1)]).map A2.row++rs:=Sx A2.row l (A2.mk v0 v1) _ rs (by simp only[A2.row_eq])
theorem sI (n:Nat) (v0 v1:ByteArray):List.replicate n [T.v (.string v0),T.v (.string v1)]=(List.replicate n (A2.mk v0 v1)).map A2.row:=UW A2.row n (A2.mk v0 v1) _ (by simp only[A2.row_eq])
theorem A1L (x:A2):A2.mk x.Pre x.Uri=x:=by cases x;rfl
structure A5 where
 Pre:ByteArray
 Local:ByteArray
 Uri:ByteArray
 Val:ByteArray
def A5.row (x:A5):List T:=[.v (.string x.Pre), .v (.string x.Local), .v (.string x.Uri), .v (.string x.Val)]
theorem A5.row_eq (x:A5):A5.row x=[.v (.string x.Pre), .v (.string x.Local), .v (.string x.Uri), .v (.string x.Val)]:=rfl
theorem fE (l:List A5):Az (l.map A5.row)=l.map A5.row:=Gs _ _ (fun x=>by simp only[A5.row,HF,frz,Mn,Nl,Nm,Nn,K1]) l
theorem fF (l:List A5):Bc (l.map A5.row)=true:=Gu _ (fun x=>by simp only[A5.row,De,allOwn,Mo,No,Np,Nq,K3,Bool.and_self]) l
theorem A1M (l:List A5):((l.map A5.row).all fun r=>r.length==4)=true:=Er _ _ (fun x=>by rfl) l
theorem A1N (l l':List A5):((l.map A5.row).map (·.length)=(l'.map A5.row).map (·.length))=((if l.length=l'.length then some ()else none)=some ()):=IG A5.row 4 (fun x=>by rfl) l l'
theorem sJ (l:List A5) (i:Nat) (v0 v1 v2 v3:ByteArray):(l.map A5.row).set i [.v (.string v0), .v (.string v1), .v (.string v2), .v (.string v3)]=(l.set i (A5.mk v0 v1 v2 v3)).map A5.row:=Sw A5.row l i (A5.mk v0 v1 v2 v3) _ (by simp only[A5.row_eq])
theorem sK (l:List A5) (rs:Rows) (v0 v1 v2 v3:ByteArray):l.map A5.row++([.v (.string v0), .v (.string v1), .v (.string v2), .v (.string v3)]::rs)=(l++[(A5.mk v0 v1 v2 v3)]).map A5.row++rs:=Sx A5.row l (A5.mk v0 v1 v2 v3) _ rs (by simp only[A5.row_eq])
theorem sL (n:Nat) (v0 v1 v2 v3:ByteArray):List.replicate n [T.v (.string v0),T.v (.string v1),T.v (.string v2),T.v (.string v3)]=(List.replicate n (A5.mk v0 v1 v2 v3)).map A5.row:=UW A5.row n (A5.mk v0 v1 v2 v3) _ (by simp only[A5.row_eq])
theorem A1O (x:A5):A5.mk x.Pre x.Local x.Uri x.Val=x:=by cases x;rfl
structure A0 where
 Kind:Int
 Pre:ByteArray
 Local:ByteArray
 Uri:ByteArray
 Decls:List A2
 Attrs:List A5
 Kids:List A0
 Text:ByteArray
mutual
def A0.row (o:Bool):A0→List T
 |⟨v0,v1,v2,v3,v4,v5,v6,v7⟩=>[.v (.int .i64 v0), .v (.string v1), .v (.string v2), .v (.string v3), .sl o (v4.map A2.row), .sl o (v5.map A5.row), .sl o (A0.rows o v6), .v (.string v7)]
def A0.rows (o:Bool):List A0→Rows
 | []=>[]
 |x::xs=>A0.row o x::A0.rows o xs
end
theorem A0.rows_eq (o:Bool) (l:List A0):A0.rows o l=l.map (A0.row o):=by
 induction l with
 |nil=>rfl
 |cons x l ih=>simp only[A0.rows,List.map_cons,ih]
theorem A0.row_eq (o:Bool) (x:A0):A0.row o x=[.v (.int .i64 x.Kind), .v (.string x.Pre), .v (.string x.Local), .v (.string x.Uri), .sl o (x.Decls.map A2.row), .sl o (x.Attrs.map A5.row), .sl o (x.Kids.map (A0.row o)), .v (.string x.Text)]:=by
 cases x;simp only[A0.row,A0.rows_eq]
mutual
theorem A0.frz1 (o:Bool):∀x:A0,HF (A0.row o x)=A0.row false x
 |⟨v0,v1,v2,v3,v4,v5,v6,v7⟩=>by simp only[A0.row,HF,frz,Mn,Nl,Nm,Nn,K1,fE,fC,A0.frzs]
theorem A0.frzs (o:Bool):∀l:List A0,Az (A0.rows o l)=A0.rows false l
 | []=>rfl
 |x::l=>by simp only[A0.rows,Az,A0.frz1,A0.frzs]
end
mutual
theorem A0.own1 : ∀ x:A0,De (A0.row true x)=true
 |⟨v0,v1,v2,v3,v4,v5,v6,v7⟩=>by simp only[A0.row,De,allOwn,Mo,No,Np,Nq,K3,fF,fD,A0.owns,Bool.and_self]
theorem A0.owns : ∀ l:List A0,Bc (A0.rows true l)=true
 | []=>rfl
 |x::l=>by simp only[A0.rows,Bc,A0.own1,A0.owns,Bool.and_self]
end
theorem qR (o:Bool) (l:List A0):Az (l.map (A0.row o))=l.map (A0.row false):=Gs _ _ (A0.frz1 o) l
theorem qS (l:List A0):Bc (l.map (A0.row true))=true:=Gu _ A0.own1 l
theorem A1P (o:Bool) (l:List A0):((l.map (A0.row o)).all fun r=>r.length==8)=true:=Er _ _ (fun x=>by cases x;rfl) l
theorem A1Q (o:Bool) (l l':List A0):((l.map (A0.row o)).map (·.length)=(l'.map (A0.row o)).map (·.length))=((if l.length=l'.length then some ()else none)=some ()):=IG (A0.row o) 8 (fun x=>by cases x;rfl) l l'
theorem sM (o:Bool) (l:List A0) (i:Nat) (v0:Int) (v1 v2 v3:ByteArray) (v4:List A2) (v5:List A5) (v6:List A0) (v7:ByteArray):(l.map (A0.row o)).set i [.v (.int .i64 v0), .v (.string v1), .v (.string v2), .v (.string v3), .sl o (v4.map A2.row), .sl o (v5.map A5.row), .sl o (v6.map (A0.row o)), .v (.string v7)]=(l.set i (A0.mk v0 v1 v2 v3 v4 v5 v6 v7)).map (A0.row o):=Sw (A0.row o) l i (A0.mk v0 v1 v2 v3 v4 v5 v6 v7) _ (by simp only[A0.row_eq])
theorem sN (o:Bool) (l:List A0) (rs:Rows) (v0:Int) (v1 v2 v3:ByteArray) (v4:List A2) (v5:List A5) (v6:List A0) (v7:ByteArray):l.map (A0.row o)++([.v (.int .i64 v0), .v (.string v1), .v (.string v2), .v (.string v3), .sl o (v4.map A2.row), .sl o (v5.map A5.row), .sl o (v6.map (A0.row o)), .v (.string v7)]::rs)=(l++[(A0.mk v0 v1 v2 v3 v4 v5 v6 v7)]).map (A0.row o)++rs:=Sx (A0.row o) l (A0.mk v0 v1 v2 v3 v4 v5 v6 v7) _ rs (by simp only[A0.row_eq])
theorem sO (o:Bool) (n:Nat) (v0:Int) (v1 v2 v3:ByteArray) (v4:List A2) (v5:List A5) (v6:List A0) (v7:ByteArray):List.replicate n [T.v (.int .i64 v0),T.v (.string v1),T.v (.string v2),T.v (.string v3),T.sl o (v4.map A2.row),T.sl o (v5.map A5.row),T.sl o (v6.map (A0.row o)),T.v (.string v7)]=(List.replicate n (A0.mk v0 v1 v2 v3 v4 v5 v6 v7)).map (A0.row o):=UW (A0.row o) n (A0.mk v0 v1 v2 v3 v4 v5 v6 v7) _ (by simp only[A0.row_eq])
theorem sP (o:Bool) (l:List A0) (i:Nat) (v0:Int) (v1 v2 v3:ByteArray) (v5:List A5) (v6:List A0) (v7:ByteArray):(l.map (A0.row o)).set i [.v (.int .i64 v0), .v (.string v1), .v (.string v2), .v (.string v3), .sl o [], .sl o (v5.map A5.row), .sl o (v6.map (A0.row o)), .v (.string v7)]=(l.set i (A0.mk v0 v1 v2 v3 [] v5 v6 v7)).map (A0.row o):=Sw (A0.row o) l i (A0.mk v0 v1 v2 v3 [] v5 v6 v7) _ (by simp only[A0.row_eq,List.map_nil])
theorem sQ (o:Bool) (l:List A0) (rs:Rows) (v0:Int) (v1 v2 v3:ByteArray) (v5:List A5) (v6:List A0) (v7:ByteArray):l.map (A0.row o)++([.v (.int .i64 v0), .v (.string v1), .v (.string v2), .v (.string v3), .sl o [], .sl o (v5.map A5.row), .sl o (v6.map (A0.row o)), .v (.string v7)]::rs)=(l++[(A0.mk v0 v1 v2 v3 [] v5 v6 v7)]).map (A0.row o)++rs:=Sx (A0.row o) l (A0.mk v0 v1 v2 v3 [] v5 v6 v7) _ rs (by simp only[A0.row_eq,List.map_nil])
theorem sR (o:Bool) (n:Nat) (v0:Int) (v1 v2 v3:ByteArray) (v5:List A5) (v6:List A0) (v7:ByteArray):List.replicate n [T.v (.int .i64 v0),T.v (.string v1),T.v (.string v2),T.v (.string v3),T.sl o [],T.sl o (v5.map A5.row),T.sl o (v6.map (A0.row o)),T.v (.string v7)]=(List.replicate n (A0.mk v0 v1 v2 v3 [] v5 v6 v7)).map (A0.row o):=UW (A0.row o) n (A0.mk v0 v1 v2 v3 [] v5 v6 v7) _ (by simp only[A0.row_eq,List.map_nil])
theorem sS (o:Bool) (l:List A0) (i:Nat) (v0:Int) (v1 v2 v3:ByteArray) (v4:List A2) (v6:List A0) (v7:ByteArray):(l.map (A0.row o)).set i [.v (.int .i64 v0), .v (.string v1), .v (.string v2), .v (.string v3), .sl o (v4.map A2.row), .sl o [], .sl o (v6.map (A0.row o)), .v (.string v7)]=(l.set i (A0.mk v0 v1 v2 v3 v4 [] v6 v7)).map (A0.row o):=Sw (A0.row o) l i (A0.mk v0 v1 v2 v3 v4 [] v6 v7) _ (by simp only[A0.row_eq,List.map_nil])
theorem sT (o:Bool) (l:List A0) (rs:Rows) (v0:Int) (v1 v2 v3:ByteArray) (v4:List A2) (v6:List A0) (v7:ByteArray):l.map (A0.row o)++([.v (.int .i64 v0), .v (.string v1), .v (.string v2), .v (.string v3), .sl o (v4.map A2.row), .sl o [], .sl o (v6.map (A0.row o)), .v (.string v7)]::rs)=(l++[(A0.mk v0 v1 v2 v3 v4 [] v6 v7)]).map (A0.row o)++rs:=Sx (A0.row o) l (A0.mk v0 v1 v2 v3 v4 [] v6 v7) _ rs (by simp only[A0.row_eq,List.map_nil])
theorem sU (o:Bool) (n:Nat) (v0:Int) (v1 v2 v3:ByteArray) (v4:List A2) (v6:List A0) (v7:ByteArray):List.replicate n [T.v (.int .i64 v0),T.v (.string v1),T.v (.string v2),T.v (.string v3),T.sl o (v4.map A2.row),T.sl o [],T.sl o (v6.map (A0.row o)),T.v (.string v7)]=(List.replicate n (A0.mk v0 v1 v2 v3 v4 [] v6 v7)).map (A0.row o):=UW (A0.row o) n (A0.mk v0 v1 v2 v3 v4 [] v6 v7) _ (by simp only[A0.row_eq,List.map_nil])
theorem sV (o:Bool) (l:List A0) (i:Nat) (v0:Int) (v1 v2 v3:ByteArray) (v6:List A0) (v7:ByteArray):(l.map (A0.row o)).set i [.v (.int .i64 v0), .v (.string v1), .v (.string v2), .v (.string v3), .sl o [], .sl o [], .sl o (v6.map (A0.row o)), .v (.string v7)]=(l.set i (A0.mk v0 v1 v2 v3 [] [] v6 v7)).map (A0.row o):=Sw (A0.row o) l i (A0.mk v0 v1 v2 v3 [] [] v6 v7) _ (by simp only[A0.row_eq,List.map_nil])
theorem sW (o:Bool) (l:List A0) (rs:Rows) (v0:Int) (v1 v2 v3:ByteArray) (v6:List A0) (v7:ByteArray):l.map (A0.row o)++([.v (.int .i64 v0), .v (.string v1), .v (.string v2), .v (.string v3), .sl o [], .sl o [], .sl o (v6.map (A0.row o)), .v (.string v7)]::rs)=(l++[(A0.mk v0 v1 v2 v3 [] [] v6 v7)]).map (A0.row o)++rs:=Sx (A0.row o) l (A0.mk v0 v1 v2 v3 [] [] v6 v7) _ rs (by simp only[A0.row_eq,List.map_nil])
theorem sX (o:Bool) (n:Nat) (v0:Int) (v1 v2 v3:ByteArray) (v6:List A0) (v7:ByteArray):List.replicate n [T.v (.int .i64 v0),T.v (.string v1),T.v (.string v2),T.v (.string v3),T.sl o [],T.sl o [],T.sl o (v6.map (A0.row o)),T.v (.string v7)]=(List.replicate n (A0.mk v0 v1 v2 v3 [] [] v6 v7)).map (A0.row o):=UW (A0.row o) n (A0.mk v0 v1 v2 v3 [] [] v6 v7) _ (by simp only[A0.row_eq,List.map_nil])
theorem sY (o:Bool) (l:List A0) (i:Nat) (v0:Int) (v1 v2 v3:ByteArray) (v4:List A2) (v5:List A5) (v7:ByteArray):(l.map (A0.row o)).set i [.v (.int .i64 v0), .v (.string v1), .v (.string v2), .v (.string v3), .sl o (v4.map A2.row), .sl o (v5.map A5.row), .sl o [], .v (.string v7)]=(l.set i (A0.mk v0 v1 v2 v3 v4 v5 [] v7)).map (A0.row o):=Sw (A0.row o) l i (A0.mk v0 v1 v2 v3 v4 v5 [] v7) _ (by simp only[A0.row_eq,List.map_nil])
theorem sZ (o:Bool) (l:List A0) (rs:Rows) (v0:Int) (v1 v2 v3:ByteArray) (v4:List A2) (v5:List A5) (v7:ByteArray):l.map (A0.row o)++([.v (.int .i64 v0), .v (.string v1), .v (.string v2), .v (.string v3), .sl o (v4.map A2.row), .sl o (v5.map A5.row), .sl o [], .v (.string v7)]::rs)=(l++[(A0.mk v0 v1 v2 v3 v4 v5 [] v7)]).map (A0.row o)++rs:=Sx (A0.row o) l (A0.mk v0 v1 v2 v3 v4 v5 [] v7) _ rs (by simp only[A0.row_eq,List.map_nil])
theorem sa (o:Bool) (n:Nat) (v0:Int) (v1 v2 v3:ByteArray) (v4:List A2) (v5:List A5) (v7:ByteArray):List.replicate n [T.v (.int .i64 v0),T.v (.string v1),T.v (.string v2),T.v (.string v3),T.sl o (v4.map A2.row),T.sl o (v5.map A5.row),T.sl o [],T.v (.string v7)]=(List.replicate n (A0.mk v0 v1 v2 v3 v4 v5 [] v7)).map (A0.row o):=UW (A0.row o) n (A0.mk v0 v1 v2 v3 v4 v5 [] v7) _ (by simp only[A0.row_eq,List.map_nil])
theorem sd (o:Bool) (l:List A0) (i:Nat) (v0:Int) (v1 v2 v3:ByteArray) (v5:List A5) (v7:ByteArray):(l.map (A0.row o)).set i [.v (.int .i64 v0), .v (.string v1), .v (.string v2), .v (.string v3), .sl o [], .sl o (v5.map A5.row), .sl o [], .v (.string v7)]=(l.set i (A0.mk v0 v1 v2 v3 [] v5 [] v7)).map (A0.row o):=Sw (A0.row o) l i (A0.mk v0 v1 v2 v3 [] v5 [] v7) _ (by simp only[A0.row_eq,List.map_nil])
theorem se (o:Bool) (l:List A0) (rs:Rows) (v0:Int) (v1 v2 v3:ByteArray) (v5:List A5) (v7:ByteArray):l.map (A0.row o)++([.v (.int .i64 v0), .v (.string v1), .v (.string v2), .v (.string v3), .sl o [], .sl o (v5.map A5.row), .sl o [], .v (.string v7)]::rs)=(l++[(A0.mk v0 v1 v2 v3 [] v5 [] v7)]).map (A0.row o)++rs:=Sx (A0.row o) l (A0.mk v0 v1 v2 v3 [] v5 [] v7) _ rs (by simp only[A0.row_eq,List.map_nil])
theorem sf (o:Bool) (n:Nat) (v0:Int) (v1 v2 v3:ByteArray) (v5:List A5) (v7:ByteArray):List.replicate n [T.v (.int .i64 v0),T.v (.string v1),T.v (.string v2),T.v (.string v3),T.sl o [],T.sl o (v5.map A5.row),T.sl o [],T.v (.string v7)]=(List.replicate n (A0.mk v0 v1 v2 v3 [] v5 [] v7)).map (A0.row o):=UW (A0.row o) n (A0.mk v0 v1 v2 v3 [] v5 [] v7) _ (by simp only[A0.row_eq,List.map_nil])
theorem si (o:Bool) (l:List A0) (i:Nat) (v0:Int) (v1 v2 v3:ByteArray) (v4:List A2) (v7:ByteArray):(l.map (A0.row o)).set i [.v (.int .i64 v0), .v (.string v1), .v (.string v2), .v (.string v3), .sl o (v4.map A2.row), .sl o [], .sl o [], .v (.string v7)]=(l.set i (A0.mk v0 v1 v2 v3 v4 [] [] v7)).map (A0.row o):=Sw (A0.row o) l i (A0.mk v0 v1 v2 v3 v4 [] [] v7) _ (by simp only[A0.row_eq,List.map_nil])
theorem sj (o:Bool) (l:List A0) (rs:Rows) (v0:Int) (v1 v2 v3:ByteArray) (v4:List A2) (v7:ByteArray):l.map (A0.row o)++([.v (.int .i64 v0), .v (.string v1), .v (.string v2), .v (.string v3), .sl o (v4.map A2.row), .sl o [], .sl o [], .v (.string v7)]::rs)=(l++[(A0.mk v0 v1 v2 v3 v4 [] [] v7)]).map (A0.row o)++rs:=Sx (A0.row o) l (A0.mk v0 v1 v2 v3 v4 [] [] v7) _ rs (by simp only[A0.row_eq,List.map_nil])
theorem sm (o:Bool) (n:Nat) (v0:Int) (v1 v2 v3:ByteArray) (v4:List A2) (v7:ByteArray):List.replicate n [T.v (.int .i64 v0),T.v (.string v1),T.v (.string v2),T.v (.string v3),T.sl o (v4.map A2.row),T.sl o [],T.sl o [],T.v (.string v7)]=(List.replicate n (A0.mk v0 v1 v2 v3 v4 [] [] v7)).map (A0.row o):=UW (A0.row o) n (A0.mk v0 v1 v2 v3 v4 [] [] v7) _ (by simp only[A0.row_eq,List.map_nil])
theorem sn (o:Bool) (l:List A0) (i:Nat) (v0:Int) (v1 v2 v3 v7:ByteArray):(l.map (A0.row o)).set i [.v (.int .i64 v0), .v (.string v1), .v (.string v2), .v (.string v3), .sl o [], .sl o [], .sl o [], .v (.string v7)]=(l.set i (A0.mk v0 v1 v2 v3 [] [] [] v7)).map (A0.row o):=Sw (A0.row o) l i (A0.mk v0 v1 v2 v3 [] [] [] v7) _ (by simp only[A0.row_eq,List.map_nil])
theorem sq (o:Bool) (l:List A0) (rs:Rows) (v0:Int) (v1 v2 v3 v7:ByteArray):l.map (A0.row o)++([.v (.int .i64 v0), .v (.string v1), .v (.string v2), .v (.string v3), .sl o [], .sl o [], .sl o [], .v (.string v7)]::rs)=(l++[(A0.mk v0 v1 v2 v3 [] [] [] v7)]).map (A0.row o)++rs:=Sx (A0.row o) l (A0.mk v0 v1 v2 v3 [] [] [] v7) _ rs (by simp only[A0.row_eq,List.map_nil])
theorem sr (o:Bool) (n:Nat) (v0:Int) (v1 v2 v3 v7:ByteArray):List.replicate n [T.v (.int .i64 v0),T.v (.string v1),T.v (.string v2),T.v (.string v3),T.sl o [],T.sl o [],T.sl o [],T.v (.string v7)]=(List.replicate n (A0.mk v0 v1 v2 v3 [] [] [] v7)).map (A0.row o):=UW (A0.row o) n (A0.mk v0 v1 v2 v3 [] [] [] v7) _ (by simp only[A0.row_eq,List.map_nil])
theorem fG (x:A0):A0.mk x.Kind x.Pre x.Local x.Uri x.Decls x.Attrs x.Kids x.Text=x:=by cases x;rfl
structure A7 where
 xb:List Int
 xi:Int
 xh:Int
def A7.row (o:Bool) (x:A7):List T:=[.sl o (x.xb.map (rK .u8)), .v (.int .i64 x.xi), .v (.int .i64 x.xh)]
theorem A7.row_eq (o:Bool) (x:A7):A7.row o x=[.sl o (x.xb.map (rK .u8)), .v (.int .i64 x.xi), .v (.int .i64 x.xh)]:=rfl
theorem yq (o:Bool) (l:List A7):Az (l.map (A7.row o))=l.map (A7.row false):=Gs _ _ (fun x=>by simp only[A7.row,HF,frz,Mn,Nl,Nm,Nn,K1]) l
theorem yr (l:List A7):Bc (l.map (A7.row true))=true:=Gu _ (fun x=>by simp only[A7.row,De,allOwn,Mo,No,Np,Nq,K3,Bool.and_self]) l
theorem yt (o:Bool) (l:List A7):((l.map (A7.row o)).all fun r=>r.length==3)=true:=Er _ _ (fun x=>by rfl) l
theorem yu (o:Bool) (l l':List A7):((l.map (A7.row o)).map (·.length)=(l'.map (A7.row o)).map (·.length))=((if l.length=l'.length then some ()else none)=some ()):=IG (A7.row o) 3 (fun x=>by rfl) l l'
theorem yv (x:A7):A7.mk x.xb x.xi x.xh=x:=by cases x;rfl
structure AH where
 Kind:Int
 N:Int
 Pre:ByteArray
 Local:ByteArray
 Val:ByteArray
def AH.row (x:AH):List T:=[.v (.int .i64 x.Kind), .v (.int .i64 x.N), .v (.string x.Pre), .v (.string x.Local), .v (.string x.Val)]
theorem AH.row_eq (x:AH):AH.row x=[.v (.int .i64 x.Kind), .v (.int .i64 x.N), .v (.string x.Pre), .v (.string x.Local), .v (.string x.Val)]:=rfl
theorem qT (l:List AH):Az (l.map AH.row)=l.map AH.row:=Gs _ _ (fun x=>by simp only[AH.row,HF,frz,Mn,Nl,Nm,Nn,K1]) l
theorem qU (l:List AH):Bc (l.map AH.row)=true:=Gu _ (fun x=>by simp only[AH.row,De,allOwn,Mo,No,Np,Nq,K3,Bool.and_self]) l
theorem A1R (l:List AH):((l.map AH.row).all fun r=>r.length==5)=true:=Er _ _ (fun x=>by rfl) l
theorem A1S (l l':List AH):((l.map AH.row).map (·.length)=(l'.map AH.row).map (·.length))=((if l.length=l'.length then some ()else none)=some ()):=IG AH.row 5 (fun x=>by rfl) l l'
theorem su (l:List AH) (i:Nat) (v0 v1:Int) (v2 v3 v4:ByteArray):(l.map AH.row).set i [.v (.int .i64 v0), .v (.int .i64 v1), .v (.string v2), .v (.string v3), .v (.string v4)]=(l.set i (AH.mk v0 v1 v2 v3 v4)).map AH.row:=Sw AH.row l i (AH.mk v0 v1 v2 v3 v4) _ (by simp only[AH.row_eq])
theorem sy (l:List AH) (rs:Rows) (v0 v1:Int) (v2 v3 v4:ByteArray):l.map AH.row++([.v (.int .i64 v0), .v (.int .i64 v1), .v (.string v2), .v (.string v3), .v (.string v4)]::rs)=(l++[(AH.mk v0 v1 v2 v3 v4)]).map AH.row++rs:=Sx AH.row l (AH.mk v0 v1 v2 v3 v4) _ rs (by simp only[AH.row_eq])
theorem t6 (n:Nat) (v0 v1:Int) (v2 v3 v4:ByteArray):List.replicate n [T.v (.int .i64 v0),T.v (.int .i64 v1),T.v (.string v2),T.v (.string v3),T.v (.string v4)]=(List.replicate n (AH.mk v0 v1 v2 v3 v4)).map AH.row:=UW AH.row n (AH.mk v0 v1 v2 v3 v4) _ (by simp only[AH.row_eq])
theorem A1T (x:AH):AH.mk x.Kind x.N x.Pre x.Local x.Val=x:=by cases x;rfl
structure AE where
 Deep:Bool
 Kind:Int
 Pre:ByteArray
 Local:ByteArray
 Preds:List AH
def AE.row (o:Bool) (x:AE):List T:=[.v (.bool x.Deep), .v (.int .i64 x.Kind), .v (.string x.Pre), .v (.string x.Local), .sl o (x.Preds.map AH.row)]
theorem AE.row_eq (o:Bool) (x:AE):AE.row o x=[.v (.bool x.Deep), .v (.int .i64 x.Kind), .v (.string x.Pre), .v (.string x.Local), .sl o (x.Preds.map AH.row)]:=rfl
theorem vh (o:Bool) (l:List AE):Az (l.map (AE.row o))=l.map (AE.row false):=Gs _ _ (fun x=>by simp only[AE.row,HF,frz,Mn,Nl,Nm,Nn,K1,qT]) l
theorem vi (l:List AE):Bc (l.map (AE.row true))=true:=Gu _ (fun x=>by simp only[AE.row,De,allOwn,Mo,No,Np,Nq,K3,qU,Bool.and_self]) l
theorem A52 (o:Bool) (l:List AE):((l.map (AE.row o)).all fun r=>r.length==5)=true:=Er _ _ (fun x=>by rfl) l
theorem A53 (o:Bool) (l l':List AE):((l.map (AE.row o)).map (·.length)=(l'.map (AE.row o)).map (·.length))=((if l.length=l'.length then some ()else none)=some ()):=IG (AE.row o) 5 (fun x=>by rfl) l l'
theorem vj (o:Bool) (l:List AE) (i:Nat) (v0:Bool) (v1:Int) (v2 v3:ByteArray) (v4:List AH):(l.map (AE.row o)).set i [.v (.bool v0), .v (.int .i64 v1), .v (.string v2), .v (.string v3), .sl o (v4.map AH.row)]=(l.set i (AE.mk v0 v1 v2 v3 v4)).map (AE.row o):=Sw (AE.row o) l i (AE.mk v0 v1 v2 v3 v4) _ (by simp only[AE.row_eq])
theorem vl (o:Bool) (l:List AE) (rs:Rows) (v0:Bool) (v1:Int) (v2 v3:ByteArray) (v4:List AH):l.map (AE.row o)++([.v (.bool v0), .v (.int .i64 v1), .v (.string v2), .v (.string v3), .sl o (v4.map AH.row)]::rs)=(l++[(AE.mk v0 v1 v2 v3 v4)]).map (AE.row o)++rs:=Sx (AE.row o) l (AE.mk v0 v1 v2 v3 v4) _ rs (by simp only[AE.row_eq])
theorem vm (o:Bool) (n:Nat) (v0:Bool) (v1:Int) (v2 v3:ByteArray) (v4:List AH):List.replicate n [T.v (.bool v0),T.v (.int .i64 v1),T.v (.string v2),T.v (.string v3),T.sl o (v4.map AH.row)]=(List.replicate n (AE.mk v0 v1 v2 v3 v4)).map (AE.row o):=UW (AE.row o) n (AE.mk v0 v1 v2 v3 v4) _ (by simp only[AE.row_eq])
theorem vn (o:Bool) (l:List AE) (i:Nat) (v0:Bool) (v1:Int) (v2 v3:ByteArray):(l.map (AE.row o)).set i [.v (.bool v0), .v (.int .i64 v1), .v (.string v2), .v (.string v3), .sl o []]=(l.set i (AE.mk v0 v1 v2 v3 [])).map (AE.row o):=Sw (AE.row o) l i (AE.mk v0 v1 v2 v3 []) _ (by simp only[AE.row_eq,List.map_nil])
theorem vo (o:Bool) (l:List AE) (rs:Rows) (v0:Bool) (v1:Int) (v2 v3:ByteArray):l.map (AE.row o)++([.v (.bool v0), .v (.int .i64 v1), .v (.string v2), .v (.string v3), .sl o []]::rs)=(l++[(AE.mk v0 v1 v2 v3 [])]).map (AE.row o)++rs:=Sx (AE.row o) l (AE.mk v0 v1 v2 v3 []) _ rs (by simp only[AE.row_eq,List.map_nil])
theorem vp (o:Bool) (n:Nat) (v0:Bool) (v1:Int) (v2 v3:ByteArray):List.replicate n [T.v (.bool v0),T.v (.int .i64 v1),T.v (.string v2),T.v (.string v3),T.sl o []]=(List.replicate n (AE.mk v0 v1 v2 v3 [])).map (AE.row o):=UW (AE.row o) n (AE.mk v0 v1 v2 v3 []) _ (by simp only[AE.row_eq,List.map_nil])
theorem vq (o:Bool) (l:List AE) (i:Nat) (v0:Bool) (v1:Int) (v2 v3:ByteArray) (v4Kind v4N:Int) (v4Pre v4Local v4Val:ByteArray):(l.map (AE.row o)).set i [.v (.bool v0), .v (.int .i64 v1), .v (.string v2), .v (.string v3), .sl o [[.v (.int .i64 v4Kind), .v (.int .i64 v4N), .v (.string v4Pre), .v (.string v4Local), .v (.string v4Val)]]]=(l.set i (AE.mk v0 v1 v2 v3 [AH.mk v4Kind v4N v4Pre v4Local v4Val])).map (AE.row o):=Sw (AE.row o) l i (AE.mk v0 v1 v2 v3 [AH.mk v4Kind v4N v4Pre v4Local v4Val]) _ (by simp only[AE.row_eq,List.map_cons,List.map_nil,AH.row_eq])
theorem vr (o:Bool) (l:List AE) (rs:Rows) (v0:Bool) (v1:Int) (v2 v3:ByteArray) (v4Kind v4N:Int) (v4Pre v4Local v4Val:ByteArray):l.map (AE.row o)++([.v (.bool v0), .v (.int .i64 v1), .v (.string v2), .v (.string v3), .sl o [[.v (.int .i64 v4Kind), .v (.int .i64 v4N), .v (.string v4Pre), .v (.string v4Local), .v (.string v4Val)]]]::rs)=(l++[(AE.mk v0 v1 v2 v3 [AH.mk v4Kind v4N v4Pre v4Local v4Val])]).map (AE.row o)++rs:=Sx (AE.row o) l (AE.mk v0 v1 v2 v3 [AH.mk v4Kind v4N v4Pre v4Local v4Val]) _ rs (by simp only[AE.row_eq,List.map_cons,List.map_nil,AH.row_eq])
theorem vt (o:Bool) (n:Nat) (v0:Bool) (v1:Int) (v2 v3:ByteArray) (v4Kind v4N:Int) (v4Pre v4Local v4Val:ByteArray):List.replicate n [T.v (.bool v0),T.v (.int .i64 v1),T.v (.string v2),T.v (.string v3),T.sl o [[.v (.int .i64 v4Kind), .v (.int .i64 v4N), .v (.string v4Pre), .v (.string v4Local), .v (.string v4Val)]]]=(List.replicate n (AE.mk v0 v1 v2 v3 [AH.mk v4Kind v4N v4Pre v4Local v4Val])).map (AE.row o):=UW (AE.row o) n (AE.mk v0 v1 v2 v3 [AH.mk v4Kind v4N v4Pre v4Local v4Val]) _ (by simp only[AE.row_eq,List.map_cons,List.map_nil,AH.row_eq])
theorem A54 (x:AE):AE.mk x.Deep x.Kind x.Pre x.Local x.Preds=x:=by cases x;rfl
structure B8 where
 Id:ByteArray
 Steps:List AE
def B8.row (o:Bool) (x:B8):List T:=[.v (.string x.Id), .sl o (x.Steps.map (AE.row o))]
theorem B8.row_eq (o:Bool) (x:B8):B8.row o x=[.v (.string x.Id), .sl o (x.Steps.map (AE.row o))]:=rfl
theorem A55 (o:Bool) (l:List B8):Az (l.map (B8.row o))=l.map (B8.row false):=Gs _ _ (fun x=>by simp only[B8.row,HF,frz,Mn,Nl,Nm,Nn,K1,vh]) l
theorem A56 (l:List B8):Bc (l.map (B8.row true))=true:=Gu _ (fun x=>by simp only[B8.row,De,allOwn,Mo,No,Np,Nq,K3,vi,Bool.and_self]) l
theorem A57 (o:Bool) (l:List B8):((l.map (B8.row o)).all fun r=>r.length==2)=true:=Er _ _ (fun x=>by rfl) l
theorem A58 (o:Bool) (l l':List B8):((l.map (B8.row o)).map (·.length)=(l'.map (B8.row o)).map (·.length))=((if l.length=l'.length then some ()else none)=some ()):=IG (B8.row o) 2 (fun x=>by rfl) l l'
theorem A59 (x:B8):B8.mk x.Id x.Steps=x:=by cases x;rfl
structure AG where
 xa0:Int
 xa1:Int
def AG.row (x:AG):List T:=[.v (.int .i64 x.xa0), .v (.int .i64 x.xa1)]
theorem AG.row_eq (x:AG):AG.row x=[.v (.int .i64 x.xa0), .v (.int .i64 x.xa1)]:=rfl
theorem t7 (l:List AG):Az (l.map AG.row)=l.map AG.row:=Gs _ _ (fun x=>by simp only[AG.row,HF,frz,Mn,Nl,Nm,Nn,K1]) l
theorem t8 (l:List AG):Bc (l.map AG.row)=true:=Gu _ (fun x=>by simp only[AG.row,De,allOwn,Mo,No,Np,Nq,K3,Bool.and_self]) l
theorem tA (l:List AG):((l.map AG.row).all fun r=>r.length==2)=true:=Er _ _ (fun x=>by rfl) l
theorem tB (l l':List AG):((l.map AG.row).map (·.length)=(l'.map AG.row).map (·.length))=((if l.length=l'.length then some ()else none)=some ()):=IG AG.row 2 (fun x=>by rfl) l l'
theorem iO (l:List AG) (i:Nat) (v0 v1:Int):(l.map AG.row).set i [.v (.int .i64 v0), .v (.int .i64 v1)]=(l.set i (AG.mk v0 v1)).map AG.row:=Sw AG.row l i (AG.mk v0 v1) _ (by simp only[AG.row_eq])
theorem iP (l:List AG) (rs:Rows) (v0 v1:Int):l.map AG.row++([.v (.int .i64 v0), .v (.int .i64 v1)]::rs)=(l++[(AG.mk v0 v1)]).map AG.row++rs:=Sx AG.row l (AG.mk v0 v1) _ rs (by simp only[AG.row_eq])
theorem iQ (n:Nat) (v0 v1:Int):List.replicate n [T.v (.int .i64 v0),T.v (.int .i64 v1)]=(List.replicate n (AG.mk v0 v1)).map AG.row:=UW AG.row n (AG.mk v0 v1) _ (by simp only[AG.row_eq])
theorem tC (x:AG):AG.mk x.xa0 x.xa1=x:=by cases x;rfl
structure H6 where
 Name:ByteArray
 Val:ByteArray
def H6.row (x:H6):List T:=[.v (.string x.Name), .v (.string x.Val)]
theorem H6.row_eq (x:H6):H6.row x=[.v (.string x.Name), .v (.string x.Val)]:=rfl
theorem kn (l:List H6):Az (l.map H6.row)=l.map H6.row:=Gs _ _ (fun x=>by simp only[H6.row,HF,frz,Mn,Nl,Nm,Nn,K1]) l
theorem ko (l:List H6):Bc (l.map H6.row)=true:=Gu _ (fun x=>by simp only[H6.row,De,allOwn,Mo,No,Np,Nq,K3,Bool.and_self]) l
theorem A5A (l:List H6):((l.map H6.row).all fun r=>r.length==2)=true:=Er _ _ (fun x=>by rfl) l
theorem A5B (l l':List H6):((l.map H6.row).map (·.length)=(l'.map H6.row).map (·.length))=((if l.length=l'.length then some ()else none)=some ()):=IG H6.row 2 (fun x=>by rfl) l l'
theorem A5C (x:H6):H6.mk x.Name x.Val=x:=by cases x;rfl
structure CU where
 El:ByteArray
 At:ByteArray
 Id:Bool
 Has:Bool
 Val:ByteArray
def CU.row (x:CU):List T:=[.v (.string x.El), .v (.string x.At), .v (.bool x.Id), .v (.bool x.Has), .v (.string x.Val)]
theorem CU.row_eq (x:CU):CU.row x=[.v (.string x.El), .v (.string x.At), .v (.bool x.Id), .v (.bool x.Has), .v (.string x.Val)]:=rfl
theorem kq (l:List CU):Az (l.map CU.row)=l.map CU.row:=Gs _ _ (fun x=>by simp only[CU.row,HF,frz,Mn,Nl,Nm,Nn,K1]) l
theorem kr (l:List CU):Bc (l.map CU.row)=true:=Gu _ (fun x=>by simp only[CU.row,De,allOwn,Mo,No,Np,Nq,K3,Bool.and_self]) l
theorem A5D (l:List CU):((l.map CU.row).all fun r=>r.length==5)=true:=Er _ _ (fun x=>by rfl) l
theorem A5E (l l':List CU):((l.map CU.row).map (·.length)=(l'.map CU.row).map (·.length))=((if l.length=l'.length then some ()else none)=some ()):=IG CU.row 5 (fun x=>by rfl) l l'
theorem vu (l:List CU) (i:Nat) (v0 v1:ByteArray) (v2 v3:Bool) (v4:ByteArray):(l.map CU.row).set i [.v (.string v0), .v (.string v1), .v (.bool v2), .v (.bool v3), .v (.string v4)]=(l.set i (CU.mk v0 v1 v2 v3 v4)).map CU.row:=Sw CU.row l i (CU.mk v0 v1 v2 v3 v4) _ (by simp only[CU.row_eq])
theorem vy (l:List CU) (rs:Rows) (v0 v1:ByteArray) (v2 v3:Bool) (v4:ByteArray):l.map CU.row++([.v (.string v0), .v (.string v1), .v (.bool v2), .v (.bool v3), .v (.string v4)]::rs)=(l++[(CU.mk v0 v1 v2 v3 v4)]).map CU.row++rs:=Sx CU.row l (CU.mk v0 v1 v2 v3 v4) _ rs (by simp only[CU.row_eq])
theorem vz (n:Nat) (v0 v1:ByteArray) (v2 v3:Bool) (v4:ByteArray):List.replicate n [T.v (.string v0),T.v (.string v1),T.v (.bool v2),T.v (.bool v3),T.v (.string v4)]=(List.replicate n (CU.mk v0 v1 v2 v3 v4)).map CU.row:=UW CU.row n (CU.mk v0 v1 v2 v3 v4) _ (by simp only[CU.row_eq])
theorem A5F (x:CU):CU.mk x.El x.At x.Id x.Has x.Val=x:=by cases x;rfl
structure Dm where
 Name:ByteArray
 Ents:List H6
 Defs:List CU
def Dm.row (o:Bool) (x:Dm):List T:=[.v (.string x.Name), .sl o (x.Ents.map H6.row), .sl o (x.Defs.map CU.row)]
theorem Dm.row_eq (o:Bool) (x:Dm):Dm.row o x=[.v (.string x.Name), .sl o (x.Ents.map H6.row), .sl o (x.Defs.map CU.row)]:=rfl
theorem A1U (o:Bool) (l:List Dm):Az (l.map (Dm.row o))=l.map (Dm.row false):=Gs _ _ (fun x=>by simp only[Dm.row,HF,frz,Mn,Nl,Nm,Nn,K1,kq,kn]) l
theorem A1V (l:List Dm):Bc (l.map (Dm.row true))=true:=Gu _ (fun x=>by simp only[Dm.row,De,allOwn,Mo,No,Np,Nq,K3,kr,ko,Bool.and_self]) l
theorem A1W (o:Bool) (l:List Dm):((l.map (Dm.row o)).all fun r=>r.length==3)=true:=Er _ _ (fun x=>by rfl) l
theorem A1X (o:Bool) (l l':List Dm):((l.map (Dm.row o)).map (·.length)=(l'.map (Dm.row o)).map (·.length))=((if l.length=l'.length then some ()else none)=some ()):=IG (Dm.row o) 3 (fun x=>by rfl) l l'
theorem A1Y (x:Dm):Dm.mk x.Name x.Ents x.Defs=x:=by cases x;rfl
structure Ah where
 xt:A0
 xh:Dm
 xl:List A2
def Ah.row (o:Bool) (x:Ah):List T:=[.v (.int .i64 x.xt.Kind), .v (.string x.xt.Pre), .v (.string x.xt.Local), .v (.string x.xt.Uri), .sl o (x.xt.Decls.map A2.row), .sl o (x.xt.Attrs.map A5.row), .sl o (x.xt.Kids.map (A0.row o)), .v (.string x.xt.Text), .v (.string x.xh.Name), .sl o (x.xh.Ents.map H6.row), .sl o (x.xh.Defs.map CU.row), .sl o (x.xl.map A2.row)]
theorem Ah.row_eq (o:Bool) (x:Ah):Ah.row o x=[.v (.int .i64 x.xt.Kind), .v (.string x.xt.Pre), .v (.string x.xt.Local), .v (.string x.xt.Uri), .sl o (x.xt.Decls.map A2.row), .sl o (x.xt.Attrs.map A5.row), .sl o (x.xt.Kids.map (A0.row o)), .v (.string x.xt.Text), .v (.string x.xh.Name), .sl o (x.xh.Ents.map H6.row), .sl o (x.xh.Defs.map CU.row), .sl o (x.xl.map A2.row)]:=rfl
theorem w7 (o:Bool) (l:List Ah):Az (l.map (Ah.row o))=l.map (Ah.row false):=Gs _ _ (fun x=>by simp only[Ah.row,HF,frz,Mn,Nl,Nm,Nn,K1,fE,fC,kq,kn,qR]) l
theorem w8 (l:List Ah):Bc (l.map (Ah.row true))=true:=Gu _ (fun x=>by simp only[Ah.row,De,allOwn,Mo,No,Np,Nq,K3,fF,fD,kr,ko,qS,Bool.and_self]) l
theorem w9 (o:Bool) (l:List Ah):((l.map (Ah.row o)).all fun r=>r.length==12)=true:=Er _ _ (fun x=>by rfl) l
theorem wA (o:Bool) (l l':List Ah):((l.map (Ah.row o)).map (·.length)=(l'.map (Ah.row o)).map (·.length))=((if l.length=l'.length then some ()else none)=some ()):=IG (Ah.row o) 12 (fun x=>by rfl) l l'
theorem wB (x:Ah):Ah.mk x.xt x.xh x.xl=x:=by cases x;rfl
structure Am where
 Path:List Int
 Kind:Int
 I:Int
def Am.row (o:Bool) (x:Am):List T:=[.sl o (x.Path.map rI), .v (.int .i64 x.Kind), .v (.int .i64 x.I)]
theorem Am.row_eq (o:Bool) (x:Am):Am.row o x=[.sl o (x.Path.map rI), .v (.int .i64 x.Kind), .v (.int .i64 x.I)]:=rfl
theorem A1Z (o:Bool) (l:List Am):Az (l.map (Am.row o))=l.map (Am.row false):=Gs _ _ (fun x=>by simp only[Am.row,HF,frz,Mn,Nl,Nm,Nn,K1]) l
theorem A1a (l:List Am):Bc (l.map (Am.row true))=true:=Gu _ (fun x=>by simp only[Am.row,De,allOwn,Mo,No,Np,Nq,K3,Bool.and_self]) l
theorem A1b (o:Bool) (l:List Am):((l.map (Am.row o)).all fun r=>r.length==3)=true:=Er _ _ (fun x=>by rfl) l
theorem A1c (o:Bool) (l l':List Am):((l.map (Am.row o)).map (·.length)=(l'.map (Am.row o)).map (·.length))=((if l.length=l'.length then some ()else none)=some ()):=IG (Am.row o) 3 (fun x=>by rfl) l l'
theorem tD (o:Bool) (l:List Am) (i:Nat) (v0:List Int) (v1 v2:Int):(l.map (Am.row o)).set i [.sl o (v0.map rI), .v (.int .i64 v1), .v (.int .i64 v2)]=(l.set i (Am.mk v0 v1 v2)).map (Am.row o):=Sw (Am.row o) l i (Am.mk v0 v1 v2) _ (by simp only[Am.row_eq])
theorem tE (o:Bool) (l:List Am) (rs:Rows) (v0:List Int) (v1 v2:Int):l.map (Am.row o)++([.sl o (v0.map rI), .v (.int .i64 v1), .v (.int .i64 v2)]::rs)=(l++[(Am.mk v0 v1 v2)]).map (Am.row o)++rs:=Sx (Am.row o) l (Am.mk v0 v1 v2) _ rs (by simp only[Am.row_eq])
theorem tF (o:Bool) (n:Nat) (v0:List Int) (v1 v2:Int):List.replicate n [T.sl o (v0.map rI),T.v (.int .i64 v1),T.v (.int .i64 v2)]=(List.replicate n (Am.mk v0 v1 v2)).map (Am.row o):=UW (Am.row o) n (Am.mk v0 v1 v2) _ (by simp only[Am.row_eq])
theorem tG (o:Bool) (l:List Am) (i:Nat) (v1 v2:Int):(l.map (Am.row o)).set i [.sl o [], .v (.int .i64 v1), .v (.int .i64 v2)]=(l.set i (Am.mk [] v1 v2)).map (Am.row o):=Sw (Am.row o) l i (Am.mk [] v1 v2) _ (by simp only[Am.row_eq,List.map_nil])
theorem tH (o:Bool) (l:List Am) (rs:Rows) (v1 v2:Int):l.map (Am.row o)++([.sl o [], .v (.int .i64 v1), .v (.int .i64 v2)]::rs)=(l++[(Am.mk [] v1 v2)]).map (Am.row o)++rs:=Sx (Am.row o) l (Am.mk [] v1 v2) _ rs (by simp only[Am.row_eq,List.map_nil])
theorem tI (o:Bool) (n:Nat) (v1 v2:Int):List.replicate n [T.sl o [],T.v (.int .i64 v1),T.v (.int .i64 v2)]=(List.replicate n (Am.mk [] v1 v2)).map (Am.row o):=UW (Am.row o) n (Am.mk [] v1 v2) _ (by simp only[Am.row_eq,List.map_nil])
theorem A1d (x:Am):Am.mk x.Path x.Kind x.I=x:=by cases x;rfl
def RS := ai (@A2.row_eq)<|ai (@sG)<|ai (@sH)<|ai (@sI)<|ai (@A1L)<|ai (@fC)<|ai (@fD)<|ai (@A1J)<|ai (@A1K)<|ai (@A5.row_eq)<|ai (@sJ)<|ai (@sK)<|ai (@sL)<|ai (@A1O)<|ai (@fE)<|ai (@fF)<|ai (@A1M)<|ai (@A1N)<|ai (@A0.row_eq)<|ai (@sM)<|ai (@sN)<|ai (@sO)<|ai (@sP)<|ai (@sQ)<|ai (@sR)<|ai (@sS)<|ai (@sT)<|ai (@sU)<|ai (@sV)<|ai (@sW)<|ai (@sX)<|ai (@sY)<|ai (@sZ)<|ai (@sa)<|ai (@sd)<|ai (@se)<|ai (@sf)<|ai (@si)<|ai (@sj)<|ai (@sm)<|ai (@sn)<|ai (@sq)<|ai (@sr)<|ai (@fG)<|ai (@qR)<|ai (@qS)<|ai (@A1P)<|ai (@A1Q)<|ai (@A7.row_eq)<|ai (@yv)<|ai (@yq)<|ai (@yr)<|ai (@yt)<|ai (@yu)<|ai (@AH.row_eq)<|ai (@su)<|ai (@sy)<|ai (@t6)<|ai (@A1T)<|ai (@qT)<|ai (@qU)<|ai (@A1R)<|ai (@A1S)<|ai (@AE.row_eq)<|ai (@vj)<|ai (@vl)<|ai (@vm)<|ai (@vn)<|ai (@vo)<|ai (@vp)<|ai (@vq)<|ai (@vr)<|ai (@vt)<|ai (@A54)<|ai (@vh)<|ai (@vi)<|ai (@A52)<|ai (@A53)<|ai (@B8.row_eq)<|ai (@A59)<|ai (@A55)<|ai (@A56)<|ai (@A57)<|ai (@A58)<|ai (@AG.row_eq)<|ai (@iO)<|ai (@iP)<|ai (@iQ)<|ai (@tC)<|ai (@t7)<|ai (@t8)<|ai (@tA)<|ai (@tB)<|ai (@H6.row_eq)<|ai (@A5C)<|ai (@kn)<|ai (@ko)<|ai (@A5A)<|ai (@A5B)<|ai (@CU.row_eq)<|ai (@vu)<|ai (@vy)<|ai (@vz)<|ai (@A5F)<|ai (@kq)<|ai (@kr)<|ai (@A5D)<|ai (@A5E)<|ai (@Dm.row_eq)<|ai (@A1Y)<|ai (@A1U)<|ai (@A1V)<|ai (@A1W)<|ai (@A1X)<|ai (@Ah.row_eq)<|ai (@wB)<|ai (@w7)<|ai (@w8)<|ai (@w9)<|ai (@wA)<|ai (@Am.row_eq)<|ai (@tD)<|ai (@tE)<|ai (@tF)<|ai (@tG)<|ai (@tH)<|ai (@tI)<|ai (@A1d)<|ai (@A1Z)<|ai (@A1a)<|ai (@A1b)<|(@A1c)
end TT
