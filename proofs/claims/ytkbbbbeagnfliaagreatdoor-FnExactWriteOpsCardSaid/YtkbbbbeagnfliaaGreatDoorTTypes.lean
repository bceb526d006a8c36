import Derived.Test.YtkbbbbeagnfliaaGreatDoorTH4
import Derived.Test.YtkbbbbeagnfliaaGreatDoorTHX4
set_option maxHeartbeats 2000000
set_option linter.unusedVariables false
set_option linter.unusedSimpArgs false
set_option linter.defProp false
set_option maxRecDepth 100000
namespace TT
open Go
structure GPred where
 Kind:Int
 N:Int
 Pre:ByteArray
 Local:ByteArray
 Val:ByteArray
def GPred.row (x:GPred):List T:=[.v (.int .i64 x.Kind), .v (.int .i64 x.N), .v (.string x.Pre), .v (.string x.Local), .v (.string x.Val)]
theorem GPred.row_eq (x:GPred):GPred.row x=[.v (.int .i64 x.Kind), .v (.int .i64 x.N), .v (.string x.Pre), .v (.string x.Local), .v (.string x.Val)]:=rfl
theorem rh (l:List GPred):Aw (l.map GPred.row)=l.map GPred.row:=JR _ _ (fun x=>by simp only[GPred.row,Ho,frz,Ug,WA,WB,WC,SR]) l
theorem ri (l:List GPred):Bm (l.map GPred.row)=true:=JS _ (fun x=>by simp only[GPred.row,EU,allOwn,Uh,WD,WE,WF,ST,Bool.and_self]) l
theorem A28 (l:List GPred):((l.map GPred.row).all fun r=>r.length==5)=true:=HP _ _ (fun x=>by rfl) l
theorem A29 (l l':List GPred):((l.map GPred.row).map (·.length)=(l'.map GPred.row).map (·.length))=((if l.length=l'.length then some ()else none)=some ()):=Mt GPred.row 5 (fun x=>by rfl) l l'
theorem tZ (l:List GPred) (i:Nat) (v0 v1:Int) (v2 v3 v4:ByteArray):(l.map GPred.row).set i [.v (.int .i64 v0), .v (.int .i64 v1), .v (.string v2), .v (.string v3), .v (.string v4)]=(l.set i (GPred.mk v0 v1 v2 v3 v4)).map GPred.row:=Mu GPred.row l i (GPred.mk v0 v1 v2 v3 v4) _ (by simp only[GPred.row_eq])
theorem tb (l:List GPred) (rs:Rows) (v0 v1:Int) (v2 v3 v4:ByteArray):l.map GPred.row++([.v (.int .i64 v0), .v (.int .i64 v1), .v (.string v2), .v (.string v3), .v (.string v4)]::rs)=(l++[(GPred.mk v0 v1 v2 v3 v4)]).map GPred.row++rs:=Mv GPred.row l (GPred.mk v0 v1 v2 v3 v4) _ rs (by simp only[GPred.row_eq])
theorem tc (n:Nat) (v0 v1:Int) (v2 v3 v4:ByteArray):List.replicate n [T.v (.int .i64 v0),T.v (.int .i64 v1),T.v (.string v2),T.v (.string v3),T.v (.string v4)]=(List.replicate n (GPred.mk v0 v1 v2 v3 v4)).map GPred.row:=PQ GPred.row n (GPred.mk v0 v1 v2 v3 v4) _ (by simp only[GPred.row_eq])
theorem rj (x:GPred):GPred.mk x.Kind x.N x.Pre x.Local x.Val=x:=by cases x;rfl
structure GStp where
 Deep:Bool
 Kind:Int
 Pre:ByteArray
 Local:ByteArray
 Preds:List GPred
def GStp.row (o:Bool) (x:GStp):List T:=[.v (.bool x.Deep), .v (.int .i64 x.Kind), .v (.string x.Pre), .v (.string x.Local), .sl o (x.Preds.map GPred.row)]
theorem GStp.row_eq (o:Bool) (x:GStp):GStp.row o x=[.v (.bool x.Deep), .v (.int .i64 x.Kind), .v (.string x.Pre), .v (.string x.Local), .sl o (x.Preds.map GPred.row)]:=rfl
theorem lq (o:Bool) (l:List GStp):Aw (l.map (GStp.row o))=l.map (GStp.row false):=JR _ _ (fun x=>by simp only[GStp.row,Ho,frz,Ug,WA,WB,WC,SR,rh]) l
theorem lr (l:List GStp):Bm (l.map (GStp.row true))=true:=JS _ (fun x=>by simp only[GStp.row,EU,allOwn,Uh,WD,WE,WF,ST,ri,Bool.and_self]) l
theorem A5e (o:Bool) (l:List GStp):((l.map (GStp.row o)).all fun r=>r.length==5)=true:=HP _ _ (fun x=>by rfl) l
theorem A5f (o:Bool) (l l':List GStp):((l.map (GStp.row o)).map (·.length)=(l'.map (GStp.row o)).map (·.length))=((if l.length=l'.length then some ()else none)=some ()):=Mt (GStp.row o) 5 (fun x=>by rfl) l l'
theorem ww (o:Bool) (l:List GStp) (i:Nat) (v0:Bool) (v1:Int) (v2 v3:ByteArray) (v4:List GPred):(l.map (GStp.row o)).set i [.v (.bool v0), .v (.int .i64 v1), .v (.string v2), .v (.string v3), .sl o (v4.map GPred.row)]=(l.set i (GStp.mk v0 v1 v2 v3 v4)).map (GStp.row o):=Mu (GStp.row o) l i (GStp.mk v0 v1 v2 v3 v4) _ (by simp only[GStp.row_eq])
theorem wy (o:Bool) (l:List GStp) (rs:Rows) (v0:Bool) (v1:Int) (v2 v3:ByteArray) (v4:List GPred):l.map (GStp.row o)++([.v (.bool v0), .v (.int .i64 v1), .v (.string v2), .v (.string v3), .sl o (v4.map GPred.row)]::rs)=(l++[(GStp.mk v0 v1 v2 v3 v4)]).map (GStp.row o)++rs:=Mv (GStp.row o) l (GStp.mk v0 v1 v2 v3 v4) _ rs (by simp only[GStp.row_eq])
theorem wz (o:Bool) (n:Nat) (v0:Bool) (v1:Int) (v2 v3:ByteArray) (v4:List GPred):List.replicate n [T.v (.bool v0),T.v (.int .i64 v1),T.v (.string v2),T.v (.string v3),T.sl o (v4.map GPred.row)]=(List.replicate n (GStp.mk v0 v1 v2 v3 v4)).map (GStp.row o):=PQ (GStp.row o) n (GStp.mk v0 v1 v2 v3 v4) _ (by simp only[GStp.row_eq])
theorem xA (o:Bool) (l:List GStp) (i:Nat) (v0:Bool) (v1:Int) (v2 v3:ByteArray):(l.map (GStp.row o)).set i [.v (.bool v0), .v (.int .i64 v1), .v (.string v2), .v (.string v3), .sl o []]=(l.set i (GStp.mk v0 v1 v2 v3 [])).map (GStp.row o):=Mu (GStp.row o) l i (GStp.mk v0 v1 v2 v3 []) _ (by simp only[GStp.row_eq,List.map_nil])
theorem xB (o:Bool) (l:List GStp) (rs:Rows) (v0:Bool) (v1:Int) (v2 v3:ByteArray):l.map (GStp.row o)++([.v (.bool v0), .v (.int .i64 v1), .v (.string v2), .v (.string v3), .sl o []]::rs)=(l++[(GStp.mk v0 v1 v2 v3 [])]).map (GStp.row o)++rs:=Mv (GStp.row o) l (GStp.mk v0 v1 v2 v3 []) _ rs (by simp only[GStp.row_eq,List.map_nil])
theorem xC (o:Bool) (n:Nat) (v0:Bool) (v1:Int) (v2 v3:ByteArray):List.replicate n [T.v (.bool v0),T.v (.int .i64 v1),T.v (.string v2),T.v (.string v3),T.sl o []]=(List.replicate n (GStp.mk v0 v1 v2 v3 [])).map (GStp.row o):=PQ (GStp.row o) n (GStp.mk v0 v1 v2 v3 []) _ (by simp only[GStp.row_eq,List.map_nil])
theorem xD (o:Bool) (l:List GStp) (i:Nat) (v0:Bool) (v1:Int) (v2 v3:ByteArray) (v4Kind v4N:Int) (v4Pre v4Local v4Val:ByteArray):(l.map (GStp.row o)).set i [.v (.bool v0), .v (.int .i64 v1), .v (.string v2), .v (.string v3), .sl o [[.v (.int .i64 v4Kind), .v (.int .i64 v4N), .v (.string v4Pre), .v (.string v4Local), .v (.string v4Val)]]]=(l.set i (GStp.mk v0 v1 v2 v3 [GPred.mk v4Kind v4N v4Pre v4Local v4Val])).map (GStp.row o):=Mu (GStp.row o) l i (GStp.mk v0 v1 v2 v3 [GPred.mk v4Kind v4N v4Pre v4Local v4Val]) _ (by simp only[GStp.row_eq,List.map_cons,List.map_nil,GPred.row_eq])
theorem xE (o:Bool) (l:List GStp) (rs:Rows) (v0:Bool) (v1:Int) (v2 v3:ByteArray) (v4Kind v4N:Int) (v4Pre v4Local v4Val:ByteArray):l.map (GStp.row o)++([.v (.bool v0), .v (.int .i64 v1), .v (.string v2), .v (.string v3), .sl o [[.v (.int .i64 v4Kind), .v (.int .i64 v4N), .v (.string v4Pre), .v (.string v4Local), .v (.string v4Val)]]]::rs)=(l++[(GStp.mk v0 v1 v2 v3 [GPred.mk v4Kind v4N v4Pre v4Local v4Val])]).map (GStp.row o)++rs:=Mv (GStp.row o) l (GStp.mk v0 v1 v2 v3 [GPred.mk v4Kind v4N v4Pre v4Local v4Val]) _ rs (by simp only[GStp.row_eq,List.map_cons,List.map_nil,GPred.row_eq])
theorem xF (o:Bool) (n:Nat) (v0:Bool) (v1:Int) (v2 v3:ByteArray) (v4Kind v4N:Int) (v4Pre v4Local v4Val:ByteArray):List.replicate n [T.v (.bool v0),T.v (.int .i64 v1),T.v (.string v2),T.v (.string v3),T.sl o [[.v (.int .i64 v4Kind), .v (.int .i64 v4N), .v (.string v4Pre), .v (.string v4Local), .v (.string v4Val)]]]=(List.replicate n (GStp.mk v0 v1 v2 v3 [GPred.mk v4Kind v4N v4Pre v4Local v4Val])).map (GStp.row o):=PQ (GStp.row o) n (GStp.mk v0 v1 v2 v3 [GPred.mk v4Kind v4N v4Pre v4Local v4Val]) _ (by simp only[GStp.row_eq,List.map_cons,List.map_nil,GPred.row_eq])
theorem xG (x:GStp):GStp.mk x.Deep x.Kind x.Pre x.Local x.Preds=x:=by cases x;rfl
structure GSel where
 Id:ByteArray
 Steps:List GStp
def GSel.row (o:Bool) (x:GSel):List T:=[.v (.string x.Id), .sl o (x.Steps.map (GStp.row o))]
theorem GSel.row_eq (o:Bool) (x:GSel):GSel.row o x=[.v (.string x.Id), .sl o (x.Steps.map (GStp.row o))]:=rfl
theorem A5g (o:Bool) (l:List GSel):Aw (l.map (GSel.row o))=l.map (GSel.row false):=JR _ _ (fun x=>by simp only[GSel.row,Ho,frz,Ug,WA,WB,WC,SR,lq]) l
theorem A5h (l:List GSel):Bm (l.map (GSel.row true))=true:=JS _ (fun x=>by simp only[GSel.row,EU,allOwn,Uh,WD,WE,WF,ST,lr,Bool.and_self]) l
theorem A5i (o:Bool) (l:List GSel):((l.map (GSel.row o)).all fun r=>r.length==2)=true:=HP _ _ (fun x=>by rfl) l
theorem A5j (o:Bool) (l l':List GSel):((l.map (GSel.row o)).map (·.length)=(l'.map (GSel.row o)).map (·.length))=((if l.length=l'.length then some ()else none)=some ()):=Mt (GSel.row o) 2 (fun x=>by rfl) l l'
theorem xH (x:GSel):GSel.mk x.Id x.Steps=x:=by cases x;rfl
structure GDecl where
 Pre:ByteArray
 Uri:ByteArray
def GDecl.row (x:GDecl):List T:=[.v (.string x.Pre), .v (.string x.Uri)]
theorem GDecl.row_eq (x:GDecl):GDecl.row x=[.v (.string x.Pre), .v (.string x.Uri)]:=rfl
theorem fY (l:List GDecl):Aw (l.map GDecl.row)=l.map GDecl.row:=JR _ _ (fun x=>by simp only[GDecl.row,Ho,frz,Ug,WA,WB,WC,SR]) l
theorem fZ (l:List GDecl):Bm (l.map GDecl.row)=true:=JS _ (fun x=>by simp only[GDecl.row,EU,allOwn,Uh,WD,WE,WF,ST,Bool.and_self]) l
theorem A2A (l:List GDecl):((l.map GDecl.row).all fun r=>r.length==2)=true:=HP _ _ (fun x=>by rfl) l
theorem A2B (l l':List GDecl):((l.map GDecl.row).map (·.length)=(l'.map GDecl.row).map (·.length))=((if l.length=l'.length then some ()else none)=some ()):=Mt GDecl.row 2 (fun x=>by rfl) l l'
theorem td (l:List GDecl) (i:Nat) (v0 v1:ByteArray):(l.map GDecl.row).set i [.v (.string v0), .v (.string v1)]=(l.set i (GDecl.mk v0 v1)).map GDecl.row:=Mu GDecl.row l i (GDecl.mk v0 v1) _ (by simp only[GDecl.row_eq])
theorem te (l:List GDecl) (rs:Rows) (v0 v1:ByteArray):l.map GDecl.row++([.v (.string v0), .v (.string v1)]::rs)=(l++[(GDecl.mk v0 v1)]).map GDecl.row++rs:=Mv GDecl.row l (GDecl.mk v0 v1) _ rs (by simp only[GDecl.row_eq])
theorem tf (n:Nat) (v0 v1:ByteArray):List.replicate n [T.v (.string v0),T.v (.string v1)]=(List.replicate n (GDecl.mk v0 v1)).map GDecl.row:=PQ GDecl.row n (GDecl.mk v0 v1) _ (by simp only[GDecl.row_eq])
theorem rl (x:GDecl):GDecl.mk x.Pre x.Uri=x:=by cases x;rfl
structure GAttr where
 Pre:ByteArray
 Local:ByteArray
 Uri:ByteArray
 Val:ByteArray
def GAttr.row (x:GAttr):List T:=[.v (.string x.Pre), .v (.string x.Local), .v (.string x.Uri), .v (.string x.Val)]
theorem GAttr.row_eq (x:GAttr):GAttr.row x=[.v (.string x.Pre), .v (.string x.Local), .v (.string x.Uri), .v (.string x.Val)]:=rfl
theorem rm (l:List GAttr):Aw (l.map GAttr.row)=l.map GAttr.row:=JR _ _ (fun x=>by simp only[GAttr.row,Ho,frz,Ug,WA,WB,WC,SR]) l
theorem rn (l:List GAttr):Bm (l.map GAttr.row)=true:=JS _ (fun x=>by simp only[GAttr.row,EU,allOwn,Uh,WD,WE,WF,ST,Bool.and_self]) l
theorem A2C (l:List GAttr):((l.map GAttr.row).all fun r=>r.length==4)=true:=HP _ _ (fun x=>by rfl) l
theorem A2D (l l':List GAttr):((l.map GAttr.row).map (·.length)=(l'.map GAttr.row).map (·.length))=((if l.length=l'.length then some ()else none)=some ()):=Mt GAttr.row 4 (fun x=>by rfl) l l'
theorem tg (l:List GAttr) (i:Nat) (v0 v1 v2 v3:ByteArray):(l.map GAttr.row).set i [.v (.string v0), .v (.string v1), .v (.string v2), .v (.string v3)]=(l.set i (GAttr.mk v0 v1 v2 v3)).map GAttr.row:=Mu GAttr.row l i (GAttr.mk v0 v1 v2 v3) _ (by simp only[GAttr.row_eq])
theorem tj (l:List GAttr) (rs:Rows) (v0 v1 v2 v3:ByteArray):l.map GAttr.row++([.v (.string v0), .v (.string v1), .v (.string v2), .v (.string v3)]::rs)=(l++[(GAttr.mk v0 v1 v2 v3)]).map GAttr.row++rs:=Mv GAttr.row l (GAttr.mk v0 v1 v2 v3) _ rs (by simp only[GAttr.row_eq])
theorem tk (n:Nat) (v0 v1 v2 v3:ByteArray):List.replicate n [T.v (.string v0),T.v (.string v1),T.v (.string v2),T.v (.string v3)]=(List.replicate n (GAttr.mk v0 v1 v2 v3)).map GAttr.row:=PQ GAttr.row n (GAttr.mk v0 v1 v2 v3) _ (by simp only[GAttr.row_eq])
theorem ro (x:GAttr):GAttr.mk x.Pre x.Local x.Uri x.Val=x:=by cases x;rfl
structure GNode where
 Kind:Int
 Pre:ByteArray
 Local:ByteArray
 Uri:ByteArray
 Decls:List GDecl
 Attrs:List GAttr
 Kids:List GNode
 Text:ByteArray
mutual
def GNode.row (o:Bool):GNode→List T
 |⟨v0,v1,v2,v3,v4,v5,v6,v7⟩=>[.v (.int .i64 v0), .v (.string v1), .v (.string v2), .v (.string v3), .sl o (v4.map GDecl.row), .sl o (v5.map GAttr.row), .sl o (GNode.rows o v6), .v (.string v7)]
def GNode.rows (o:Bool):List GNode→Rows
 | []=>[]
 |x::xs=>GNode.row o x::GNode.rows o xs
end
theorem GNode.rows_eq (o:Bool) (l:List GNode):GNode.rows o l=l.map (GNode.row o):=by
 induction l with
 |nil=>rfl
 |cons x l ih=>simp only[GNode.rows,List.map_cons,ih]
theorem GNode.row_eq (o:Bool) (x:GNode):GNode.row o x=[.v (.int .i64 x.Kind), .v (.string x.Pre), .v (.string x.Local), .v (.string x.Uri), .sl o (x.Decls.map GDecl.row), .sl o (x.Attrs.map GAttr.row), .sl o (x.Kids.map (GNode.row o)), .v (.string x.Text)]:=by
 cases x;simp only[GNode.row,GNode.rows_eq]
mutual
theorem GNode.frz1 (o:Bool):∀x:GNode,Ho (GNode.row o x)=GNode.row false x
 |⟨v0,v1,v2,v3,v4,v5,v6,v7⟩=>by simp only[GNode.row,Ho,frz,Ug,WA,WB,WC,SR,rm,fY,GNode.frzs]
theorem GNode.frzs (o:Bool):∀l:List GNode,Aw (GNode.rows o l)=GNode.rows false l
 | []=>rfl
 |x::l=>by simp only[GNode.rows,Aw,GNode.frz1,GNode.frzs]
end
mutual
theorem GNode.own1 : ∀ x:GNode,EU (GNode.row true x)=true
 |⟨v0,v1,v2,v3,v4,v5,v6,v7⟩=>by simp only[GNode.row,EU,allOwn,Uh,WD,WE,WF,ST,rn,fZ,GNode.owns,Bool.and_self]
theorem GNode.owns : ∀ l:List GNode,Bm (GNode.rows true l)=true
 | []=>rfl
 |x::l=>by simp only[GNode.rows,Bm,GNode.own1,GNode.owns,Bool.and_self]
end
theorem rq (o:Bool) (l:List GNode):Aw (l.map (GNode.row o))=l.map (GNode.row false):=JR _ _ (GNode.frz1 o) l
theorem rr (l:List GNode):Bm (l.map (GNode.row true))=true:=JS _ GNode.own1 l
theorem A2E (o:Bool) (l:List GNode):((l.map (GNode.row o)).all fun r=>r.length==8)=true:=HP _ _ (fun x=>by cases x;rfl) l
theorem A2F (o:Bool) (l l':List GNode):((l.map (GNode.row o)).map (·.length)=(l'.map (GNode.row o)).map (·.length))=((if l.length=l'.length then some ()else none)=some ()):=Mt (GNode.row o) 8 (fun x=>by cases x;rfl) l l'
theorem tl (o:Bool) (l:List GNode) (i:Nat) (v0:Int) (v1 v2 v3:ByteArray) (v4:List GDecl) (v5:List GAttr) (v6:List GNode) (v7:ByteArray):(l.map (GNode.row o)).set i [.v (.int .i64 v0), .v (.string v1), .v (.string v2), .v (.string v3), .sl o (v4.map GDecl.row), .sl o (v5.map GAttr.row), .sl o (v6.map (GNode.row o)), .v (.string v7)]=(l.set i (GNode.mk v0 v1 v2 v3 v4 v5 v6 v7)).map (GNode.row o):=Mu (GNode.row o) l i (GNode.mk v0 v1 v2 v3 v4 v5 v6 v7) _ (by simp only[GNode.row_eq])
theorem tn (o:Bool) (l:List GNode) (rs:Rows) (v0:Int) (v1 v2 v3:ByteArray) (v4:List GDecl) (v5:List GAttr) (v6:List GNode) (v7:ByteArray):l.map (GNode.row o)++([.v (.int .i64 v0), .v (.string v1), .v (.string v2), .v (.string v3), .sl o (v4.map GDecl.row), .sl o (v5.map GAttr.row), .sl o (v6.map (GNode.row o)), .v (.string v7)]::rs)=(l++[(GNode.mk v0 v1 v2 v3 v4 v5 v6 v7)]).map (GNode.row o)++rs:=Mv (GNode.row o) l (GNode.mk v0 v1 v2 v3 v4 v5 v6 v7) _ rs (by simp only[GNode.row_eq])
theorem tq (o:Bool) (n:Nat) (v0:Int) (v1 v2 v3:ByteArray) (v4:List GDecl) (v5:List GAttr) (v6:List GNode) (v7:ByteArray):List.replicate n [T.v (.int .i64 v0),T.v (.string v1),T.v (.string v2),T.v (.string v3),T.sl o (v4.map GDecl.row),T.sl o (v5.map GAttr.row),T.sl o (v6.map (GNode.row o)),T.v (.string v7)]=(List.replicate n (GNode.mk v0 v1 v2 v3 v4 v5 v6 v7)).map (GNode.row o):=PQ (GNode.row o) n (GNode.mk v0 v1 v2 v3 v4 v5 v6 v7) _ (by simp only[GNode.row_eq])
theorem tr (o:Bool) (l:List GNode) (i:Nat) (v0:Int) (v1 v2 v3:ByteArray) (v5:List GAttr) (v6:List GNode) (v7:ByteArray):(l.map (GNode.row o)).set i [.v (.int .i64 v0), .v (.string v1), .v (.string v2), .v (.string v3), .sl o [], .sl o (v5.map GAttr.row), .sl o (v6.map (GNode.row o)), .v (.string v7)]=(l.set i (GNode.mk v0 v1 v2 v3 [] v5 v6 v7)).map (GNode.row o):=Mu (GNode.row o) l i (GNode.mk v0 v1 v2 v3 [] v5 v6 v7) _ (by simp only[GNode.row_eq,List.map_nil])
theorem tt (o:Bool) (l:List GNode) (rs:Rows) (v0:Int) (v1 v2 v3:ByteArray) (v5:List GAttr) (v6:List GNode) (v7:ByteArray):l.map (GNode.row o)++([.v (.int .i64 v0), .v (.string v1), .v (.string v2), .v (.string v3), .sl o [], .sl o (v5.map GAttr.row), .sl o (v6.map (GNode.row o)), .v (.string v7)]::rs)=(l++[(GNode.mk v0 v1 v2 v3 [] v5 v6 v7)]).map (GNode.row o)++rs:=Mv (GNode.row o) l (GNode.mk v0 v1 v2 v3 [] v5 v6 v7) _ rs (by simp only[GNode.row_eq,List.map_nil])
theorem tu (o:Bool) (n:Nat) (v0:Int) (v1 v2 v3:ByteArray) (v5:List GAttr) (v6:List GNode) (v7:ByteArray):List.replicate n [T.v (.int .i64 v0),T.v (.string v1),T.v (.string v2),T.v (.string v3),T.sl o [],T.sl o (v5.map GAttr.row),T.sl o (v6.map (GNode.row o)),T.v (.string v7)]=(List.replicate n (GNode.mk v0 v1 v2 v3 [] v5 v6 v7)).map (GNode.row o):=PQ (GNode.row o) n (GNode.mk v0 v1 v2 v3 [] v5 v6 v7) _ (by simp only[GNode.row_eq,List.map_nil])
theorem tw (o:Bool) (l:List GNode) (i:Nat) (v0:Int) (v1 v2 v3:ByteArray) (v4:List GDecl) (v6:List GNode) (v7:ByteArray):(l.map (GNode.row o)).set i [.v (.int .i64 v0), .v (.string v1), .v (.string v2), .v (.string v3), .sl o (v4.map GDecl.row), .sl o [], .sl o (v6.map (GNode.row o)), .v (.string v7)]=(l.set i (GNode.mk v0 v1 v2 v3 v4 [] v6 v7)).map (GNode.row o):=Mu (GNode.row o) l i (GNode.mk v0 v1 v2 v3 v4 [] v6 v7) _ (by simp only[GNode.row_eq,List.map_nil])
theorem tx (o:Bool) (l:List GNode) (rs:Rows) (v0:Int) (v1 v2 v3:ByteArray) (v4:List GDecl) (v6:List GNode) (v7:ByteArray):l.map (GNode.row o)++([.v (.int .i64 v0), .v (.string v1), .v (.string v2), .v (.string v3), .sl o (v4.map GDecl.row), .sl o [], .sl o (v6.map (GNode.row o)), .v (.string v7)]::rs)=(l++[(GNode.mk v0 v1 v2 v3 v4 [] v6 v7)]).map (GNode.row o)++rs:=Mv (GNode.row o) l (GNode.mk v0 v1 v2 v3 v4 [] v6 v7) _ rs (by simp only[GNode.row_eq,List.map_nil])
theorem tz (o:Bool) (n:Nat) (v0:Int) (v1 v2 v3:ByteArray) (v4:List GDecl) (v6:List GNode) (v7:ByteArray):List.replicate n [T.v (.int .i64 v0),T.v (.string v1),T.v (.string v2),T.v (.string v3),T.sl o (v4.map GDecl.row),T.sl o [],T.sl o (v6.map (GNode.row o)),T.v (.string v7)]=(List.replicate n (GNode.mk v0 v1 v2 v3 v4 [] v6 v7)).map (GNode.row o):=PQ (GNode.row o) n (GNode.mk v0 v1 v2 v3 v4 [] v6 v7) _ (by simp only[GNode.row_eq,List.map_nil])
theorem u9 (o:Bool) (l:List GNode) (i:Nat) (v0:Int) (v1 v2 v3:ByteArray) (v6:List GNode) (v7:ByteArray):(l.map (GNode.row o)).set i [.v (.int .i64 v0), .v (.string v1), .v (.string v2), .v (.string v3), .sl o [], .sl o [], .sl o (v6.map (GNode.row o)), .v (.string v7)]=(l.set i (GNode.mk v0 v1 v2 v3 [] [] v6 v7)).map (GNode.row o):=Mu (GNode.row o) l i (GNode.mk v0 v1 v2 v3 [] [] v6 v7) _ (by simp only[GNode.row_eq,List.map_nil])
theorem uA (o:Bool) (l:List GNode) (rs:Rows) (v0:Int) (v1 v2 v3:ByteArray) (v6:List GNode) (v7:ByteArray):l.map (GNode.row o)++([.v (.int .i64 v0), .v (.string v1), .v (.string v2), .v (.string v3), .sl o [], .sl o [], .sl o (v6.map (GNode.row o)), .v (.string v7)]::rs)=(l++[(GNode.mk v0 v1 v2 v3 [] [] v6 v7)]).map (GNode.row o)++rs:=Mv (GNode.row o) l (GNode.mk v0 v1 v2 v3 [] [] v6 v7) _ rs (by simp only[GNode.row_eq,List.map_nil])
theorem uB (o:Bool) (n:Nat) (v0:Int) (v1 v2 v3:ByteArray) (v6:List GNode) (v7:ByteArray):List.replicate n [T.v (.int .i64 v0),T.v (.string v1),T.v (.string v2),T.v (.string v3),T.sl o [],T.sl o [],T.sl o (v6.map (GNode.row o)),T.v (.string v7)]=(List.replicate n (GNode.mk v0 v1 v2 v3 [] [] v6 v7)).map (GNode.row o):=PQ (GNode.row o) n (GNode.mk v0 v1 v2 v3 [] [] v6 v7) _ (by simp only[GNode.row_eq,List.map_nil])
theorem uC (o:Bool) (l:List GNode) (i:Nat) (v0:Int) (v1 v2 v3:ByteArray) (v4:List GDecl) (v5:List GAttr) (v7:ByteArray):(l.map (GNode.row o)).set i [.v (.int .i64 v0), .v (.string v1), .v (.string v2), .v (.string v3), .sl o (v4.map GDecl.row), .sl o (v5.map GAttr.row), .sl o [], .v (.string v7)]=(l.set i (GNode.mk v0 v1 v2 v3 v4 v5 [] v7)).map (GNode.row o):=Mu (GNode.row o) l i (GNode.mk v0 v1 v2 v3 v4 v5 [] v7) _ (by simp only[GNode.row_eq,List.map_nil])
theorem uD (o:Bool) (l:List GNode) (rs:Rows) (v0:Int) (v1 v2 v3:ByteArray) (v4:List GDecl) (v5:List GAttr) (v7:ByteArray):l.map (GNode.row o)++([.v (.int .i64 v0), .v (.string v1), .v (.string v2), .v (.string v3), .sl o (v4.map GDecl.row), .sl o (v5.map GAttr.row), .sl o [], .v (.string v7)]::rs)=(l++[(GNode.mk v0 v1 v2 v3 v4 v5 [] v7)]).map (GNode.row o)++rs:=Mv (GNode.row o) l (GNode.mk v0 v1 v2 v3 v4 v5 [] v7) _ rs (by simp only[GNode.row_eq,List.map_nil])
theorem uE (o:Bool) (n:Nat) (v0:Int) (v1 v2 v3:ByteArray) (v4:List GDecl) (v5:List GAttr) (v7:ByteArray):List.replicate n [T.v (.int .i64 v0),T.v (.string v1),T.v (.string v2),T.v (.string v3),T.sl o (v4.map GDecl.row),T.sl o (v5.map GAttr.row),T.sl o [],T.v (.string v7)]=(List.replicate n (GNode.mk v0 v1 v2 v3 v4 v5 [] v7)).map (GNode.row o):=PQ (GNode.row o) n (GNode.mk v0 v1 v2 v3 v4 v5 [] v7) _ (by simp only[GNode.row_eq,List.map_nil])
theorem uF (o:Bool) (l:List GNode) (i:Nat) (v0:Int) (v1 v2 v3:ByteArray) (v5:List GAttr) (v7:ByteArray):(l.map (GNode.row o)).set i [.v (.int .i64 v0), .v (.string v1), .v (.string v2), .v (.string v3), .sl o [], .sl o (v5.map GAttr.row), .sl o [], .v (.string v7)]=(l.set i (GNode.mk v0 v1 v2 v3 [] v5 [] v7)).map (GNode.row o):=Mu (GNode.row o) l i (GNode.mk v0 v1 v2 v3 [] v5 [] v7) _ (by simp only[GNode.row_eq,List.map_nil])
theorem uG (o:Bool) (l:List GNode) (rs:Rows) (v0:Int) (v1 v2 v3:ByteArray) (v5:List GAttr) (v7:ByteArray):l.map (GNode.row o)++([.v (.int .i64 v0), .v (.string v1), .v (.string v2), .v (.string v3), .sl o [], .sl o (v5.map GAttr.row), .sl o [], .v (.string v7)]::rs)=(l++[(GNode.mk v0 v1 v2 v3 [] v5 [] v7)]).map (GNode.row o)++rs:=Mv (GNode.row o) l (GNode.mk v0 v1 v2 v3 [] v5 [] v7) _ rs (by simp only[GNode.row_eq,List.map_nil])
theorem uH (o:Bool) (n:Nat) (v0:Int) (v1 v2 v3:ByteArray) (v5:List GAttr) (v7:ByteArray):List.replicate n [T.v (.int .i64 v0),T.v (.string v1),T.v (.string v2),T.v (.string v3),T.sl o [],T.sl o (v5.map GAttr.row),T.sl o [],T.v (.string v7)]=(List.replicate n (GNode.mk v0 v1 v2 v3 [] v5 [] v7)).map (GNode.row o):=PQ (GNode.row o) n (GNode.mk v0 v1 v2 v3 [] v5 [] v7) _ (by simp only[GNode.row_eq,List.map_nil])
theorem uI (o:Bool) (l:List GNode) (i:Nat) (v0:Int) (v1 v2 v3:ByteArray) (v4:List GDecl) (v7:ByteArray):(l.map (GNode.row o)).set i [.v (.int .i64 v0), .v (.string v1), .v (.string v2), .v (.string v3), .sl o (v4.map GDecl.row), .sl o [], .sl o [], .v (.string v7)]=(l.set i (GNode.mk v0 v1 v2 v3 v4 [] [] v7)).map (GNode.row o):=Mu (GNode.row o) l i (GNode.mk v0 v1 v2 v3 v4 [] [] v7) _ (by simp only[GNode.row_eq,List.map_nil])
theorem uJ (o:Bool) (l:List GNode) (rs:Rows) (v0:Int) (v1 v2 v3:ByteArray) (v4:List GDecl) (v7:ByteArray):l.map (GNode.row o)++([.v (.int .i64 v0), .v (.string v1), .v (.string v2), .v (.string v3), .sl o (v4.map GDecl.row), .sl o [], .sl o [], .v (.string v7)]::rs)=(l++[(GNode.mk v0 v1 v2 v3 v4 [] [] v7)]).map (GNode.row o)++rs:=Mv (GNode.row o) l (GNode.mk v0 v1 v2 v3 v4 [] [] v7) _ rs (by simp only[GNode.row_eq,List.map_nil])
theorem uK (o:Bool) (n:Nat) (v0:Int) (v1 v2 v3:ByteArray) (v4:List GDecl) (v7:ByteArray):List.replicate n [T.v (.int .i64 v0),T.v (.string v1),T.v (.string v2),T.v (.string v3),T.sl o (v4.map GDecl.row),T.sl o [],T.sl o [],T.v (.string v7)]=(List.replicate n (GNode.mk v0 v1 v2 v3 v4 [] [] v7)).map (GNode.row o):=PQ (GNode.row o) n (GNode.mk v0 v1 v2 v3 v4 [] [] v7) _ (by simp only[GNode.row_eq,List.map_nil])
theorem uL (o:Bool) (l:List GNode) (i:Nat) (v0:Int) (v1 v2 v3 v7:ByteArray):(l.map (GNode.row o)).set i [.v (.int .i64 v0), .v (.string v1), .v (.string v2), .v (.string v3), .sl o [], .sl o [], .sl o [], .v (.string v7)]=(l.set i (GNode.mk v0 v1 v2 v3 [] [] [] v7)).map (GNode.row o):=Mu (GNode.row o) l i (GNode.mk v0 v1 v2 v3 [] [] [] v7) _ (by simp only[GNode.row_eq,List.map_nil])
theorem uM (o:Bool) (l:List GNode) (rs:Rows) (v0:Int) (v1 v2 v3 v7:ByteArray):l.map (GNode.row o)++([.v (.int .i64 v0), .v (.string v1), .v (.string v2), .v (.string v3), .sl o [], .sl o [], .sl o [], .v (.string v7)]::rs)=(l++[(GNode.mk v0 v1 v2 v3 [] [] [] v7)]).map (GNode.row o)++rs:=Mv (GNode.row o) l (GNode.mk v0 v1 v2 v3 [] [] [] v7) _ rs (by simp only[GNode.row_eq,List.map_nil])
theorem uN (o:Bool) (n:Nat) (v0:Int) (v1 v2 v3 v7:ByteArray):List.replicate n [T.v (.int .i64 v0),T.v (.string v1),T.v (.string v2),T.v (.string v3),T.sl o [],T.sl o [],T.sl o [],T.v (.string v7)]=(List.replicate n (GNode.mk v0 v1 v2 v3 [] [] [] v7)).map (GNode.row o):=PQ (GNode.row o) n (GNode.mk v0 v1 v2 v3 [] [] [] v7) _ (by simp only[GNode.row_eq,List.map_nil])
theorem ZU (x:GNode):GNode.mk x.Kind x.Pre x.Local x.Uri x.Decls x.Attrs x.Kids x.Text=x:=by cases x;rfl
structure GOp where
 Kind:Int
 Sel:GSel
 Pos:Int
 Typ:Int
 Pre:ByteArray
 Local:ByteArray
 Ws:Int
 Kids:List GNode
 Decls:List GDecl
def GOp.row (o:Bool) (x:GOp):List T:=[.v (.int .i64 x.Kind), .v (.string x.Sel.Id), .sl o (x.Sel.Steps.map (GStp.row o)), .v (.int .i64 x.Pos), .v (.int .i64 x.Typ), .v (.string x.Pre), .v (.string x.Local), .v (.int .i64 x.Ws), .sl o (x.Kids.map (GNode.row o)), .sl o (x.Decls.map GDecl.row)]
theorem GOp.row_eq (o:Bool) (x:GOp):GOp.row o x=[.v (.int .i64 x.Kind), .v (.string x.Sel.Id), .sl o (x.Sel.Steps.map (GStp.row o)), .v (.int .i64 x.Pos), .v (.int .i64 x.Typ), .v (.string x.Pre), .v (.string x.Local), .v (.int .i64 x.Ws), .sl o (x.Kids.map (GNode.row o)), .sl o (x.Decls.map GDecl.row)]:=rfl
theorem A94 (o:Bool) (l:List GOp):Aw (l.map (GOp.row o))=l.map (GOp.row false):=JR _ _ (fun x=>by simp only[GOp.row,Ho,frz,Ug,WA,WB,WC,SR,fY,rq,lq]) l
theorem A95 (l:List GOp):Bm (l.map (GOp.row true))=true:=JS _ (fun x=>by simp only[GOp.row,EU,allOwn,Uh,WD,WE,WF,ST,fZ,rr,lr,Bool.and_self]) l
theorem A96 (o:Bool) (l:List GOp):((l.map (GOp.row o)).all fun r=>r.length==10)=true:=HP _ _ (fun x=>by rfl) l
theorem A97 (o:Bool) (l l':List GOp):((l.map (GOp.row o)).map (·.length)=(l'.map (GOp.row o)).map (·.length))=((if l.length=l'.length then some ()else none)=some ()):=Mt (GOp.row o) 10 (fun x=>by rfl) l l'
theorem ze (o:Bool) (l:List GOp) (i:Nat) (v0:Int) (v1Id:ByteArray) (v1Steps:List GStp) (v2 v3:Int) (v4 v5:ByteArray) (v6:Int) (v7:List GNode) (v8:List GDecl):(l.map (GOp.row o)).set i [.v (.int .i64 v0), .v (.string v1Id), .sl o (v1Steps.map (GStp.row o)), .v (.int .i64 v2), .v (.int .i64 v3), .v (.string v4), .v (.string v5), .v (.int .i64 v6), .sl o (v7.map (GNode.row o)), .sl o (v8.map GDecl.row)]=(l.set i (GOp.mk v0 (GSel.mk v1Id v1Steps) v2 v3 v4 v5 v6 v7 v8)).map (GOp.row o):=Mu (GOp.row o) l i (GOp.mk v0 (GSel.mk v1Id v1Steps) v2 v3 v4 v5 v6 v7 v8) _ (by simp only[GOp.row_eq])
theorem zf (o:Bool) (l:List GOp) (rs:Rows) (v0:Int) (v1Id:ByteArray) (v1Steps:List GStp) (v2 v3:Int) (v4 v5:ByteArray) (v6:Int) (v7:List GNode) (v8:List GDecl):l.map (GOp.row o)++([.v (.int .i64 v0), .v (.string v1Id), .sl o (v1Steps.map (GStp.row o)), .v (.int .i64 v2), .v (.int .i64 v3), .v (.string v4), .v (.string v5), .v (.int .i64 v6), .sl o (v7.map (GNode.row o)), .sl o (v8.map GDecl.row)]::rs)=(l++[(GOp.mk v0 (GSel.mk v1Id v1Steps) v2 v3 v4 v5 v6 v7 v8)]).map (GOp.row o)++rs:=Mv (GOp.row o) l (GOp.mk v0 (GSel.mk v1Id v1Steps) v2 v3 v4 v5 v6 v7 v8) _ rs (by simp only[GOp.row_eq])
theorem zg (o:Bool) (n:Nat) (v0:Int) (v1Id:ByteArray) (v1Steps:List GStp) (v2 v3:Int) (v4 v5:ByteArray) (v6:Int) (v7:List GNode) (v8:List GDecl):List.replicate n [T.v (.int .i64 v0),T.v (.string v1Id),T.sl o (v1Steps.map (GStp.row o)),T.v (.int .i64 v2),T.v (.int .i64 v3),T.v (.string v4),T.v (.string v5),T.v (.int .i64 v6),T.sl o (v7.map (GNode.row o)),T.sl o (v8.map GDecl.row)]=(List.replicate n (GOp.mk v0 (GSel.mk v1Id v1Steps) v2 v3 v4 v5 v6 v7 v8)).map (GOp.row o):=PQ (GOp.row o) n (GOp.mk v0 (GSel.mk v1Id v1Steps) v2 v3 v4 v5 v6 v7 v8) _ (by simp only[GOp.row_eq])
theorem zh (o:Bool) (l:List GOp) (i:Nat) (v0:Int) (v1Id:ByteArray) (v2 v3:Int) (v4 v5:ByteArray) (v6:Int) (v7:List GNode) (v8:List GDecl):(l.map (GOp.row o)).set i [.v (.int .i64 v0), .v (.string v1Id), .sl o [], .v (.int .i64 v2), .v (.int .i64 v3), .v (.string v4), .v (.string v5), .v (.int .i64 v6), .sl o (v7.map (GNode.row o)), .sl o (v8.map GDecl.row)]=(l.set i (GOp.mk v0 (GSel.mk v1Id []) v2 v3 v4 v5 v6 v7 v8)).map (GOp.row o):=Mu (GOp.row o) l i (GOp.mk v0 (GSel.mk v1Id []) v2 v3 v4 v5 v6 v7 v8) _ (by simp only[GOp.row_eq,List.map_nil])
theorem zi (o:Bool) (l:List GOp) (rs:Rows) (v0:Int) (v1Id:ByteArray) (v2 v3:Int) (v4 v5:ByteArray) (v6:Int) (v7:List GNode) (v8:List GDecl):l.map (GOp.row o)++([.v (.int .i64 v0), .v (.string v1Id), .sl o [], .v (.int .i64 v2), .v (.int .i64 v3), .v (.string v4), .v (.string v5), .v (.int .i64 v6), .sl o (v7.map (GNode.row o)), .sl o (v8.map GDecl.row)]::rs)=(l++[(GOp.mk v0 (GSel.mk v1Id []) v2 v3 v4 v5 v6 v7 v8)]).map (GOp.row o)++rs:=Mv (GOp.row o) l (GOp.mk v0 (GSel.mk v1Id []) v2 v3 v4 v5 v6 v7 v8) _ rs (by simp only[GOp.row_eq,List.map_nil])
theorem zj (o:Bool) (n:Nat) (v0:Int) (v1Id:ByteArray) (v2 v3:Int) (v4 v5:ByteArray) (v6:Int) (v7:List GNode) (v8:List GDecl):List.replicate n [T.v (.int .i64 v0),T.v (.string v1Id),T.sl o [],T.v (.int .i64 v2),T.v (.int .i64 v3),T.v (.string v4),T.v (.string v5),T.v (.int .i64 v6),T.sl o (v7.map (GNode.row o)),T.sl o (v8.map GDecl.row)]=(List.replicate n (GOp.mk v0 (GSel.mk v1Id []) v2 v3 v4 v5 v6 v7 v8)).map (GOp.row o):=PQ (GOp.row o) n (GOp.mk v0 (GSel.mk v1Id []) v2 v3 v4 v5 v6 v7 v8) _ (by simp only[GOp.row_eq,List.map_nil])
theorem zk (o:Bool) (l:List GOp) (i:Nat) (v0:Int) (v1Id:ByteArray) (v1Steps:List GStp) (v2 v3:Int) (v4 v5:ByteArray) (v6:Int) (v8:List GDecl):(l.map (GOp.row o)).set i [.v (.int .i64 v0), .v (.string v1Id), .sl o (v1Steps.map (GStp.row o)), .v (.int .i64 v2), .v (.int .i64 v3), .v (.string v4), .v (.string v5), .v (.int .i64 v6), .sl o [], .sl o (v8.map GDecl.row)]=(l.set i (GOp.mk v0 (GSel.mk v1Id v1Steps) v2 v3 v4 v5 v6 [] v8)).map (GOp.row o):=Mu (GOp.row o) l i (GOp.mk v0 (GSel.mk v1Id v1Steps) v2 v3 v4 v5 v6 [] v8) _ (by simp only[GOp.row_eq,List.map_nil])
theorem zl (o:Bool) (l:List GOp) (rs:Rows) (v0:Int) (v1Id:ByteArray) (v1Steps:List GStp) (v2 v3:Int) (v4 v5:ByteArray) (v6:Int) (v8:List GDecl):l.map (GOp.row o)++([.v (.int .i64 v0), .v (.string v1Id), .sl o (v1Steps.map (GStp.row o)), .v (.int .i64 v2), .v (.int .i64 v3), .v (.string v4), .v (.string v5), .v (.int .i64 v6), .sl o [], .sl o (v8.map GDecl.row)]::rs)=(l++[(GOp.mk v0 (GSel.mk v1Id v1Steps) v2 v3 v4 v5 v6 [] v8)]).map (GOp.row o)++rs:=Mv (GOp.row o) l (GOp.mk v0 (GSel.mk v1Id v1Steps) v2 v3 v4 v5 v6 [] v8) _ rs (by simp only[GOp.row_eq,List.map_nil])
theorem zm (o:Bool) (n:Nat) (v0:Int) (v1Id:ByteArray) (v1Steps:List GStp) (v2 v3:Int) (v4 v5:ByteArray) (v6:Int) (v8:List GDecl):List.replicate n [T.v (.int .i64 v0),T.v (.string v1Id),T.sl o (v1Steps.map (GStp.row o)),T.v (.int .i64 v2),T.v (.int .i64 v3),T.v (.string v4),T.v (.string v5),T.v (.int .i64 v6),T.sl o [],T.sl o (v8.map GDecl.row)]=(List.replicate n (GOp.mk v0 (GSel.mk v1Id v1Steps) v2 v3 v4 v5 v6 [] v8)).map (GOp.row o):=PQ (GOp.row o) n (GOp.mk v0 (GSel.mk v1Id v1Steps) v2 v3 v4 v5 v6 [] v8) _ (by simp only[GOp.row_eq,List.map_nil])
theorem zn (o:Bool) (l:List GOp) (i:Nat) (v0:Int) (v1Id:ByteArray) (v2 v3:Int) (v4 v5:ByteArray) (v6:Int) (v8:List GDecl):(l.map (GOp.row o)).set i [.v (.int .i64 v0), .v (.string v1Id), .sl o [], .v (.int .i64 v2), .v (.int .i64 v3), .v (.string v4), .v (.string v5), .v (.int .i64 v6), .sl o [], .sl o (v8.map GDecl.row)]=(l.set i (GOp.mk v0 (GSel.mk v1Id []) v2 v3 v4 v5 v6 [] v8)).map (GOp.row o):=Mu (GOp.row o) l i (GOp.mk v0 (GSel.mk v1Id []) v2 v3 v4 v5 v6 [] v8) _ (by simp only[GOp.row_eq,List.map_nil])
theorem zo (o:Bool) (l:List GOp) (rs:Rows) (v0:Int) (v1Id:ByteArray) (v2 v3:Int) (v4 v5:ByteArray) (v6:Int) (v8:List GDecl):l.map (GOp.row o)++([.v (.int .i64 v0), .v (.string v1Id), .sl o [], .v (.int .i64 v2), .v (.int .i64 v3), .v (.string v4), .v (.string v5), .v (.int .i64 v6), .sl o [], .sl o (v8.map GDecl.row)]::rs)=(l++[(GOp.mk v0 (GSel.mk v1Id []) v2 v3 v4 v5 v6 [] v8)]).map (GOp.row o)++rs:=Mv (GOp.row o) l (GOp.mk v0 (GSel.mk v1Id []) v2 v3 v4 v5 v6 [] v8) _ rs (by simp only[GOp.row_eq,List.map_nil])
theorem zp (o:Bool) (n:Nat) (v0:Int) (v1Id:ByteArray) (v2 v3:Int) (v4 v5:ByteArray) (v6:Int) (v8:List GDecl):List.replicate n [T.v (.int .i64 v0),T.v (.string v1Id),T.sl o [],T.v (.int .i64 v2),T.v (.int .i64 v3),T.v (.string v4),T.v (.string v5),T.v (.int .i64 v6),T.sl o [],T.sl o (v8.map GDecl.row)]=(List.replicate n (GOp.mk v0 (GSel.mk v1Id []) v2 v3 v4 v5 v6 [] v8)).map (GOp.row o):=PQ (GOp.row o) n (GOp.mk v0 (GSel.mk v1Id []) v2 v3 v4 v5 v6 [] v8) _ (by simp only[GOp.row_eq,List.map_nil])
theorem zq (o:Bool) (l:List GOp) (i:Nat) (v0:Int) (v1Id:ByteArray) (v1Steps:List GStp) (v2 v3:Int) (v4 v5:ByteArray) (v6:Int) (v7:List GNode):(l.map (GOp.row o)).set i [.v (.int .i64 v0), .v (.string v1Id), .sl o (v1Steps.map (GStp.row o)), .v (.int .i64 v2), .v (.int .i64 v3), .v (.string v4), .v (.string v5), .v (.int .i64 v6), .sl o (v7.map (GNode.row o)), .sl o []]=(l.set i (GOp.mk v0 (GSel.mk v1Id v1Steps) v2 v3 v4 v5 v6 v7 [])).map (GOp.row o):=Mu (GOp.row o) l i (GOp.mk v0 (GSel.mk v1Id v1Steps) v2 v3 v4 v5 v6 v7 []) _ (by simp only[GOp.row_eq,List.map_nil])
theorem zr (o:Bool) (l:List GOp) (rs:Rows) (v0:Int) (v1Id:ByteArray) (v1Steps:List GStp) (v2 v3:Int) (v4 v5:ByteArray) (v6:Int) (v7:List GNode):l.map (GOp.row o)++([.v (.int .i64 v0), .v (.string v1Id), .sl o (v1Steps.map (GStp.row o)), .v (.int .i64 v2), .v (.int .i64 v3), .v (.string v4), .v (.string v5), .v (.int .i64 v6), .sl o (v7.map (GNode.row o)), .sl o []]::rs)=(l++[(GOp.mk v0 (GSel.mk v1Id v1Steps) v2 v3 v4 v5 v6 v7 [])]).map (GOp.row o)++rs:=Mv (GOp.row o) l (GOp.mk v0 (GSel.mk v1Id v1Steps) v2 v3 v4 v5 v6 v7 []) _ rs (by simp only[GOp.row_eq,List.map_nil])
theorem zt (o:Bool) (n:Nat) (v0:Int) (v1Id:ByteArray) (v1Steps:List GStp) (v2 v3:Int) (v4 v5:ByteArray) (v6:Int) (v7:List GNode):List.replicate n [T.v (.int .i64 v0),T.v (.string v1Id),T.sl o (v1Steps.map (GStp.row o)),T.v (.int .i64 v2),T.v (.int .i64 v3),T.v (.string v4),T.v (.string v5),T.v (.int .i64 v6),T.sl o (v7.map (GNode.row o)),T.sl o []]=(List.replicate n (GOp.mk v0 (GSel.mk v1Id v1Steps) v2 v3 v4 v5 v6 v7 [])).map (GOp.row o):=PQ (GOp.row o) n (GOp.mk v0 (GSel.mk v1Id v1Steps) v2 v3 v4 v5 v6 v7 []) _ (by simp only[GOp.row_eq,List.map_nil])
theorem zu (o:Bool) (l:List GOp) (i:Nat) (v0:Int) (v1Id:ByteArray) (v2 v3:Int) (v4 v5:ByteArray) (v6:Int) (v7:List GNode):(l.map (GOp.row o)).set i [.v (.int .i64 v0), .v (.string v1Id), .sl o [], .v (.int .i64 v2), .v (.int .i64 v3), .v (.string v4), .v (.string v5), .v (.int .i64 v6), .sl o (v7.map (GNode.row o)), .sl o []]=(l.set i (GOp.mk v0 (GSel.mk v1Id []) v2 v3 v4 v5 v6 v7 [])).map (GOp.row o):=Mu (GOp.row o) l i (GOp.mk v0 (GSel.mk v1Id []) v2 v3 v4 v5 v6 v7 []) _ (by simp only[GOp.row_eq,List.map_nil])
theorem zv (o:Bool) (l:List GOp) (rs:Rows) (v0:Int) (v1Id:ByteArray) (v2 v3:Int) (v4 v5:ByteArray) (v6:Int) (v7:List GNode):l.map (GOp.row o)++([.v (.int .i64 v0), .v (.string v1Id), .sl o [], .v (.int .i64 v2), .v (.int .i64 v3), .v (.string v4), .v (.string v5), .v (.int .i64 v6), .sl o (v7.map (GNode.row o)), .sl o []]::rs)=(l++[(GOp.mk v0 (GSel.mk v1Id []) v2 v3 v4 v5 v6 v7 [])]).map (GOp.row o)++rs:=Mv (GOp.row o) l (GOp.mk v0 (GSel.mk v1Id []) v2 v3 v4 v5 v6 v7 []) _ rs (by simp only[GOp.row_eq,List.map_nil])
theorem zw (o:Bool) (n:Nat) (v0:Int) (v1Id:ByteArray) (v2 v3:Int) (v4 v5:ByteArray) (v6:Int) (v7:List GNode):List.replicate n [T.v (.int .i64 v0),T.v (.string v1Id),T.sl o [],T.v (.int .i64 v2),T.v (.int .i64 v3),T.v (.string v4),T.v (.string v5),T.v (.int .i64 v6),T.sl o (v7.map (GNode.row o)),T.sl o []]=(List.replicate n (GOp.mk v0 (GSel.mk v1Id []) v2 v3 v4 v5 v6 v7 [])).map (GOp.row o):=PQ (GOp.row o) n (GOp.mk v0 (GSel.mk v1Id []) v2 v3 v4 v5 v6 v7 []) _ (by simp only[GOp.row_eq,List.map_nil])
theorem zx (o:Bool) (l:List GOp) (i:Nat) (v0:Int) (v1Id:ByteArray) (v1Steps:List GStp) (v2 v3:Int) (v4 v5:ByteArray) (v6:Int):(l.map (GOp.row o)).set i [.v (.int .i64 v0), .v (.string v1Id), .sl o (v1Steps.map (GStp.row o)), .v (.int .i64 v2), .v (.int .i64 v3), .v (.string v4), .v (.string v5), .v (.int .i64 v6), .sl o [], .sl o []]=(l.set i (GOp.mk v0 (GSel.mk v1Id v1Steps) v2 v3 v4 v5 v6 [] [])).map (GOp.row o):=Mu (GOp.row o) l i (GOp.mk v0 (GSel.mk v1Id v1Steps) v2 v3 v4 v5 v6 [] []) _ (by simp only[GOp.row_eq,List.map_nil])
theorem zy (o:Bool) (l:List GOp) (rs:Rows) (v0:Int) (v1Id:ByteArray) (v1Steps:List GStp) (v2 v3:Int) (v4 v5:ByteArray) (v6:Int):l.map (GOp.row o)++([.v (.int .i64 v0), .v (.string v1Id), .sl o (v1Steps.map (GStp.row o)), .v (.int .i64 v2), .v (.int .i64 v3), .v (.string v4), .v (.string v5), .v (.int .i64 v6), .sl o [], .sl o []]::rs)=(l++[(GOp.mk v0 (GSel.mk v1Id v1Steps) v2 v3 v4 v5 v6 [] [])]).map (GOp.row o)++rs:=Mv (GOp.row o) l (GOp.mk v0 (GSel.mk v1Id v1Steps) v2 v3 v4 v5 v6 [] []) _ rs (by simp only[GOp.row_eq,List.map_nil])
theorem zz (o:Bool) (n:Nat) (v0:Int) (v1Id:ByteArray) (v1Steps:List GStp) (v2 v3:Int) (v4 v5:ByteArray) (v6:Int):List.replicate n [T.v (.int .i64 v0),T.v (.string v1Id),T.sl o (v1Steps.map (GStp.row o)),T.v (.int .i64 v2),T.v (.int .i64 v3),T.v (.string v4),T.v (.string v5),T.v (.int .i64 v6),T.sl o [],T.sl o []]=(List.replicate n (GOp.mk v0 (GSel.mk v1Id v1Steps) v2 v3 v4 v5 v6 [] [])).map (GOp.row o):=PQ (GOp.row o) n (GOp.mk v0 (GSel.mk v1Id v1Steps) v2 v3 v4 v5 v6 [] []) _ (by simp only[GOp.row_eq,List.map_nil])
theorem A00 (o:Bool) (l:List GOp) (i:Nat) (v0:Int) (v1Id:ByteArray) (v2 v3:Int) (v4 v5:ByteArray) (v6:Int):(l.map (GOp.row o)).set i [.v (.int .i64 v0), .v (.string v1Id), .sl o [], .v (.int .i64 v2), .v (.int .i64 v3), .v (.string v4), .v (.string v5), .v (.int .i64 v6), .sl o [], .sl o []]=(l.set i (GOp.mk v0 (GSel.mk v1Id []) v2 v3 v4 v5 v6 [] [])).map (GOp.row o):=Mu (GOp.row o) l i (GOp.mk v0 (GSel.mk v1Id []) v2 v3 v4 v5 v6 [] []) _ (by simp only[GOp.row_eq,List.map_nil])
theorem A01 (o:Bool) (l:List GOp) (rs:Rows) (v0:Int) (v1Id:ByteArray) (v2 v3:Int) (v4 v5:ByteArray) (v6:Int):l.map (GOp.row o)++([.v (.int .i64 v0), .v (.string v1Id), .sl o [], .v (.int .i64 v2), .v (.int .i64 v3), .v (.string v4), .v (.string v5), .v (.int .i64 v6), .sl o [], .sl o []]::rs)=(l++[(GOp.mk v0 (GSel.mk v1Id []) v2 v3 v4 v5 v6 [] [])]).map (GOp.row o)++rs:=Mv (GOp.row o) l (GOp.mk v0 (GSel.mk v1Id []) v2 v3 v4 v5 v6 [] []) _ rs (by simp only[GOp.row_eq,List.map_nil])
theorem A02 (o:Bool) (n:Nat) (v0:Int) (v1Id:ByteArray) (v2 v3:Int) (v4 v5:ByteArray) (v6:Int):List.replicate n [T.v (.int .i64 v0),T.v (.string v1Id),T.sl o [],T.v (.int .i64 v2),T.v (.int .i64 v3),T.v (.string v4),T.v (.string v5),T.v (.int .i64 v6),T.sl o [],T.sl o []]=(List.replicate n (GOp.mk v0 (GSel.mk v1Id []) v2 v3 v4 v5 v6 [] [])).map (GOp.row o):=PQ (GOp.row o) n (GOp.mk v0 (GSel.mk v1Id []) v2 v3 v4 v5 v6 [] []) _ (by simp only[GOp.row_eq,List.map_nil])
theorem A0m (x:GOp):GOp.mk x.Kind x.Sel x.Pos x.Typ x.Pre x.Local x.Ws x.Kids x.Decls=x:=by cases x;rfl
structure AE where
 xa0:Int
 xa1:Int
def AE.row (x:AE):List T:=[.v (.int .i64 x.xa0), .v (.int .i64 x.xa1)]
theorem AE.row_eq (x:AE):AE.row x=[.v (.int .i64 x.xa0), .v (.int .i64 x.xa1)]:=rfl
theorem uO (l:List AE):Aw (l.map AE.row)=l.map AE.row:=JR _ _ (fun x=>by simp only[AE.row,Ho,frz,Ug,WA,WB,WC,SR]) l
theorem uP (l:List AE):Bm (l.map AE.row)=true:=JS _ (fun x=>by simp only[AE.row,EU,allOwn,Uh,WD,WE,WF,ST,Bool.and_self]) l
theorem uQ (l:List AE):((l.map AE.row).all fun r=>r.length==2)=true:=HP _ _ (fun x=>by rfl) l
theorem uR (l l':List AE):((l.map AE.row).map (·.length)=(l'.map AE.row).map (·.length))=((if l.length=l'.length then some ()else none)=some ()):=Mt AE.row 2 (fun x=>by rfl) l l'
theorem ie (l:List AE) (i:Nat) (v0 v1:Int):(l.map AE.row).set i [.v (.int .i64 v0), .v (.int .i64 v1)]=(l.set i (AE.mk v0 v1)).map AE.row:=Mu AE.row l i (AE.mk v0 v1) _ (by simp only[AE.row_eq])
theorem ig (l:List AE) (rs:Rows) (v0 v1:Int):l.map AE.row++([.v (.int .i64 v0), .v (.int .i64 v1)]::rs)=(l++[(AE.mk v0 v1)]).map AE.row++rs:=Mv AE.row l (AE.mk v0 v1) _ rs (by simp only[AE.row_eq])
theorem ij (n:Nat) (v0 v1:Int):List.replicate n [T.v (.int .i64 v0),T.v (.int .i64 v1)]=(List.replicate n (AE.mk v0 v1)).map AE.row:=PQ AE.row n (AE.mk v0 v1) _ (by simp only[AE.row_eq])
theorem uS (x:AE):AE.mk x.xa0 x.xa1=x:=by cases x;rfl
def RS := ai (@GPred.row_eq)<|ai (@tZ)<|ai (@tb)<|ai (@tc)<|ai (@rj)<|ai (@rh)<|ai (@ri)<|ai (@A28)<|ai (@A29)<|ai (@GStp.row_eq)<|ai (@ww)<|ai (@wy)<|ai (@wz)<|ai (@xA)<|ai (@xB)<|ai (@xC)<|ai (@xD)<|ai (@xE)<|ai (@xF)<|ai (@xG)<|ai (@lq)<|ai (@lr)<|ai (@A5e)<|ai (@A5f)<|ai (@GSel.row_eq)<|ai (@xH)<|ai (@A5g)<|ai (@A5h)<|ai (@A5i)<|ai (@A5j)<|ai (@GDecl.row_eq)<|ai (@td)<|ai (@te)<|ai (@tf)<|ai (@rl)<|ai (@fY)<|ai (@fZ)<|ai (@A2A)<|ai (@A2B)<|ai (@GAttr.row_eq)<|ai (@tg)<|ai (@tj)<|ai (@tk)<|ai (@ro)<|ai (@rm)<|ai (@rn)<|ai (@A2C)<|ai (@A2D)<|ai (@GNode.row_eq)<|ai (@tl)<|ai (@tn)<|ai (@tq)<|ai (@tr)<|ai (@tt)<|ai (@tu)<|ai (@tw)<|ai (@tx)<|ai (@tz)<|ai (@u9)<|ai (@uA)<|ai (@uB)<|ai (@uC)<|ai (@uD)<|ai (@uE)<|ai (@uF)<|ai (@uG)<|ai (@uH)<|ai (@uI)<|ai (@uJ)<|ai (@uK)<|ai (@uL)<|ai (@uM)<|ai (@uN)<|ai (@ZU)<|ai (@rq)<|ai (@rr)<|ai (@A2E)<|ai (@A2F)<|ai (@GOp.row_eq)<|ai (@ze)<|ai (@zf)<|ai (@zg)<|ai (@zh)<|ai (@zi)<|ai (@zj)<|ai (@zk)<|ai (@zl)<|ai (@zm)<|ai (@zn)<|ai (@zo)<|ai (@zp)<|ai (@zq)<|ai (@zr)<|ai (@zt)<|ai (@zu)<|ai (@zv)<|ai (@zw)<|ai (@zx)<|ai (@zy)<|ai (@zz)<|ai (@A00)<|ai (@A01)<|ai (@A02)<|ai (@A0m)<|ai (@A94)<|ai (@A95)<|ai (@A96)<|ai (@A97)<|ai (@AE.row_eq)<|ai (@ie)<|ai (@ig)<|ai (@ij)<|ai (@uS)<|ai (@uO)<|ai (@uP)<|ai (@uQ)<|(@uR)
end TT
