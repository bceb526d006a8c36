import Derived.Test.YtkbbbbeagnfliaaGreatDoorTH2
set_option linter.unusedVariables false
set_option linter.unusedSimpArgs false
set_option linter.defProp false
namespace TT
open Go
theorem ACr (FT:Env) (d:Nat) (o:O) (rd wr:List Nat) (s:List V) (r:R):opR FT false d o rd wr s r=(BD s d o).run (dn FT) d r:=rfl
theorem ACs (FT:Env) (d:Nat) (o:O) (rd wr:List Nat) (s:List V) (r:R):opR FT true d o rd wr s r=(BD s d o).runA (dn FT) d rd wr r:=rfl
theorem A4U {α β:Type} (f:α→β) (l:List α):AF (l.map f)=AF l:=by simp[AF]
theorem A8I {α:Type} (l:List α):((List.length l:Nat):Int)=AF l:=rfl
theorem lW {α β:Type} (f:α→β) (l:List α) (i:Int):AZ (l.map f) i=(AZ l i).map f:=by
 simp only[AZ,List.getElem?_map];split<;>rfl
theorem A8J {α β:Type} (f:α→β) (l:List α) (i j:Int):slL (l.map f) i j=(slL l i j).map (List.map f):=by
 simp only[slL,List.length_map];split<;>simp[List.map_take,List.map_drop]
theorem fV {α β:Type} (a:α) (k:α→M β):C8 (some a) k=k a:=rfl
theorem A1c {α β:Type} (k:α→M β):C8 none k= .fail:=rfl
theorem A4V {α β γ:Type} (f:α→β) (o:Option α) (k:β→M γ):C8 (o.map f) k=C8 o fun a=>k (f a):=by cases o<;>rfl
theorem ACt (nt:Nat) (args:List M4):(enter nt args).s=(RT 0 args).map (·.1)++List.replicate (nt-args.length) .dead:=rfl
theorem ACu (nt:Nat) (args:List M4):(enter nt args).r=(RT 0 args).map (·.2)++List.replicate (nt-args.length) []:=rfl
theorem yr (rows:Rows) (stt i n st:Nat):DN rows stt [] i n st=if rows.length=n then rows[i]? else none:=rfl
theorem A1d {α:Type} (a:α) (l:List α) (d:α):(a::l).getD 0 d=a:=rfl
theorem A1e {α:Type} (a:α) (l:List α) (i:Nat) (d:α):(a::l).getD (i+1) d=l.getD i d:=rfl
theorem A4W {α:Type} (i:Nat) (d:α):([]:List α).getD i d=d:=rfl
theorem A1f {α:Type} (a:α) (l:List α):(a::l)[0]? =some a:=rfl
theorem A1g {α:Type} (a:α) (l:List α) (i:Nat):(a::l)[i+1]? =l[i]? :=rfl
theorem A4X {α:Type} (a b:α) (l:List α):(a::l).set 0 b=b::l:=rfl
theorem A4Y {α:Type} (a b:α) (l:List α) (i:Nat):(a::l).set (i+1) b=a::l.set i b:=rfl
theorem A4Z (a b c d:Nat):(((a,b):Nat×Nat)==(c,d))=(a==c&&b==d):=rfl
theorem A8K (s:List V) (t:Nat):A6 s (.s t)=s.getD t .dead:=rfl
theorem A8L (s:List V) (x:Value):A6 s (.c x)=Uf x:=rfl
theorem A8M (s:List V) (f:FuncId):A6 s (.f f)= .fn f []:=rfl
theorem A8N (s:List V) (cs:List T):A6 s (.z cs)= .agg (cs.map zV):=rfl
theorem yt (k:IntKind) (n:Int):Uf (.int k n)= .t (.v (.int k n)):=rfl
theorem wV (b:Bool):Uf (.bool b)= .t (.v (.bool b)):=rfl
theorem yu (q:Option Addr):Uf (.pointer q)= .t (.v (.pointer q)):=rfl
theorem yv (x:ByteArray):Uf (.string x)= .t (.v (.string x)):=rfl
theorem wW : Uf .nilIface= .t (.v .nilIface):=rfl
theorem yw : Uf (.slice none 0 0)= .nil:=rfl
theorem A8O (id:Id) (p:B5) (i c st:Nat) (x:Value):KC id p i c st (.v x)= .t (.v x):=rfl
theorem A1h (id:Id) (p:B5) (i c st:Nat) (rows:Rows):KC id p i c st (.sl true rows)= .sub id p i c rows.length st:=rfl
theorem A4a (id:Id) (p:B5) (i c st:Nat) (rows:Rows):KC id p i c st (.sl false rows)= .t (.sl false rows):=rfl
theorem yx (id:Id) (p:B5) (i c st:Nat):KC id p i c st .hole= .dead:=rfl
theorem A4b (id:Id) (p:B5) (i c st:Nat) (cs:List T):KC id p i c st (.pp cs)= .pp cs:=rfl
theorem A4c (id:Id) (p:B5) (i c st:Nat) (f:FuncId) (cs:List (List T)):KC id p i c st (.fn f cs)= .fn f (cs.map V.pp):=rfl
theorem ADN (x:Value):tV (.v x)= .t (.v x):=rfl
theorem ACv (o:Bool) (rows:Rows):tV (.sl o rows)= .t (.sl o rows):=rfl
theorem ACw (cs:List T):tV (.pp cs)= .pp cs:=rfl
theorem ACx (f:FuncId) (cs:List (List T)):tV (.fn f cs)= .fn f (cs.map V.pp):=rfl
theorem yy (id:Id) (p:B5) (i c st:Nat):PJ id p i c st []=[]:=rfl
theorem wX (id:Id) (p:B5) (i c st:Nat) (t:T) (ts:List T):PJ id p i c st (t::ts)=KC id p i c st t::PJ id p i (c+1) st ts:=rfl
theorem wY (cs:List V):cellsOf (.agg cs)=cs:=rfl
theorem A1i (c:T):cellsOf (.t c)=[.t c]:=rfl
theorem yz (cs:List T):cellsOf (.pp cs)=[.pp cs]:=rfl
theorem zA (f:FuncId) (cs:List V):cellsOf (.fn f cs)=[.fn f cs]:=rfl
theorem wZ : cellsOf .nil=[.nil]:=rfl
theorem wa (id:Id) (n:Nat):cellsOf (.ref id n)=[.ref id n]:=rfl
theorem wb (id:Id) (p:B5) (i c n st:Nat):cellsOf (.sub id p i c n st)=[.sub id p i c n st]:=rfl
section
variable {α:Type}
theorem ABS (c:T) (k:T→M α):take (.t c) k=k c:=rfl
theorem A8P (cs:List T) (k:T→M α):take (.pp cs) k=k (.pp cs):=rfl
theorem A4d (f:FuncId) (k:T→M α):take (.fn f []) k=k (.fn f []):=rfl
theorem A4e (f:FuncId) (a:List T) (k:T→M α):take (.fn f [.pp a]) k=k (.fn f [a]):=rfl
theorem A4f (f:FuncId) (a b:List T) (k:T→M α):take (.fn f [.pp a, .pp b]) k=k (.fn f [a,b]):=rfl
theorem A4g (f:FuncId) (a b c:List T) (k:T→M α):take (.fn f [.pp a, .pp b, .pp c]) k=k (.fn f [a,b,c]):=rfl
theorem take_nil (k:T→M α):take .nil k=k (.sl true []):=rfl
def A9o (id:Id) (n:Nat) (k:T→M α):EQ→M α
 | .mem rows _ fx=>if rows.length=n then .set id .dead (k (.sl true rows))else .fail
 | .dead=> .fail
theorem A4h (id:Id) (n:Nat) (k:T→M α):take (.ref id n) k= .get id (A9o id n k):=by
 simp only[take];congr 1;funext e;cases e<;>rfl
theorem A1j (id:Id) (n:Nat) (k:T→M α) (rows:Rows) (st:Nat) (fx:Bool):A9o id n k (.mem rows st fx)=if rows.length=n then .set id .dead (k (.sl true rows))else .fail:=rfl
def A4i (id:Id) (p:B5) (i c n st:Nat) (k:T→M α):EQ→M α
 | .mem rows stt fx=>if st=stt then(match C6 rows p i c with
     |some (.sl true rs)=>if rs.length=n then .set id (.mem (BR rows p i c .hole) stt fx) (k (.sl true rs))else .fail
     |_=> .fail)else .fail
 | .dead=> .fail
theorem A4j (id:Id) (p:B5) (i c n st:Nat) (k:T→M α):take (.sub id p i c n st) k= .get id (A4i id p i c n st k):=by
 simp only[take];congr 1;funext e;cases e<;>rfl
theorem zB (id:Id) (p:B5) (i c n st:Nat) (k:T→M α) (rows:Rows) (stt:Nat) (fx:Bool):A4i id p i c n st k (.mem rows stt fx)=if st=stt then(match C6 rows p i c with
     |some (.sl true rs)=>if rs.length=n then .set id (.mem (BR rows p i c .hole) stt fx) (k (.sl true rs))else .fail
     |_=> .fail)else .fail:=rfl
theorem A1k (k:List T→M α):Eg [] k=k []:=rfl
theorem zC (v:V) (vs:List V) (k:List T→M α):Eg (v::vs) k=take v fun t=>Eg vs fun ts=>k (t::ts):=rfl
theorem t8 (k:Rows→M α):DS [] k=k []:=rfl
theorem pC (vs:List V) (vss:List (List V)) (k:Rows→M α):DS (vs::vss) k=Eg vs fun r=>DS vss fun rs=>k (r::rs):=rfl
theorem A4k (o:Bool) (rows:Rows) (k:Rows→M α):Fn (.t (.sl o rows)) k=k rows:=rfl
theorem zD (k:Rows→M α):Fn .nil k=k []:=rfl
def A9p (n:Nat) (k:Rows→M α):EQ→M α
 | .mem rows _ _=>if rows.length=n then k rows else .fail
 | .dead=> .fail
theorem zE (id:Id) (n:Nat) (k:Rows→M α):Fn (.ref id n) k= .get id (A9p n k):=by
 simp only[Fn];congr 1;funext e;cases e<;>rfl
theorem A1l (n:Nat) (k:Rows→M α) (rows:Rows) (st:Nat) (fx:Bool):A9p n k (.mem rows st fx)=if rows.length=n then k rows else .fail:=rfl
def A4l (p:B5) (i c n st:Nat) (k:Rows→M α):EQ→M α
 | .mem rows stt _=>if st=stt then(match C6 rows p i c with
     |some (.sl true rs)=>if rs.length=n then k rs else .fail
     |_=> .fail)else .fail
 | .dead=> .fail
theorem zF (id:Id) (p:B5) (i c n st:Nat) (k:Rows→M α):Fn (.sub id p i c n st) k= .get id (A4l p i c n st k):=by
 simp only[Fn];congr 1;funext e;cases e<;>rfl
theorem zG (p:B5) (i c n st:Nat) (k:Rows→M α) (rows:Rows) (stt:Nat) (fx:Bool):A4l p i c n st k (.mem rows stt fx)=if st=stt then(match C6 rows p i c with
     |some (.sl true rs)=>if rs.length=n then k rs else .fail
     |_=> .fail)else .fail:=rfl
theorem A4m (o:Bool) (rows:Rows) (k:Rows→M α):HM (.t (.sl o rows)) k=k rows:=rfl
def tA (k:Rows→M α):T→M α
 | .sl true rows=>k rows
 |_=> .fail
theorem A4n (q:Option Addr) (c:Nat) (k:Rows→M α):HM (.t (.v (.slice q 0 c))) k=k []:=rfl
theorem zH (k:Rows→M α):HM .nil k=k []:=rfl
theorem zI (id:Id) (n:Nat) (k:Rows→M α):HM (.ref id n) k=take (.ref id n) (tA k):=by
 rfl
theorem zJ (id:Id) (p:B5) (i c n st:Nat) (k:Rows→M α):HM (.sub id p i c n st) k=take (.sub id p i c n st) (tA k):=by
 rfl
theorem zK (rows:Rows) (k:Rows→M α):tA k (.sl true rows)=k rows:=rfl
theorem ABT (md:Md) (c:T) (k:PA→List EB→M α):ER md (.t c) k=k (.a (.t c)) []:=by simp only[ER]
theorem tB (k:PA→List EB→M α):ER .val .nil k=k (.a (.t (.sl false []))) []:=by simp only[ER]
theorem pD (k:PA→List EB→M α):ER .give .nil k=k (.a (.t (.sl false []))) []:=by simp only[ER]
theorem tC (k:PA→List EB→M α):ER .ref .nil k=k (.a (.ln [])) [.none]:=by simp only[ER]
theorem tD (cs:List V) (k:PA→List EB→M α):ER .val (.agg cs) k=k (.v (.agg cs)) []:=by simp only[ER]
theorem tE (cs:List V) (k:PA→List EB→M α):ER .ref (.agg cs) k=TN .ref cs fun as bs=>k (.a (.agg (as.map PA.arg))) bs:=by simp only[ER]
theorem pE (cs:List V) (k:PA→List EB→M α):ER .give (.agg cs) k=TN .give cs fun as bs=>k (.a (.agg (as.map PA.arg))) bs:=by simp only[ER]
theorem tF (id:Id) (n:Nat) (k:PA→List EB→M α):ER .val (.ref id n) k=k (.v (.ref id n)) []:=by simp only[ER]
theorem tG (id:Id) (p:B5) (i c n st:Nat) (k:PA→List EB→M α):ER .val (.sub id p i c n st) k=k (.v (.sub id p i c n st)) []:=by simp only[ER]
def A9q (id:Id) (n:Nat) (k:PA→List EB→M α):EQ→M α
 | .mem rows st fx=>if rows.length=n then .set id .dead (k (.a (.ln rows)) [.root id st fx rows])else .fail
 | .dead=> .fail
theorem tH (id:Id) (n:Nat) (k:PA→List EB→M α):ER .ref (.ref id n) k= .get id (A9q id n k):=by
 simp only[ER];congr 1;funext e;cases e<;>rfl
theorem A1m (id:Id) (n:Nat) (k:PA→List EB→M α) (rows:Rows) (st:Nat) (fx:Bool):A9q id n k (.mem rows st fx)=if rows.length=n then .set id .dead (k (.a (.ln rows)) [.root id st fx rows])else .fail:=rfl
def A9r (id:Id) (n:Nat) (k:PA→List EB→M α):EQ→M α
 | .mem rows st fx=>if rows.length=n then .set id .dead (k (.a (.t (.sl false (Aw rows)))) [])else .fail
 | .dead=> .fail
theorem pF (id:Id) (n:Nat) (k:PA→List EB→M α):ER .give (.ref id n) k= .get id (A9r id n k):=by
 simp only[ER];congr 1;funext e;cases e<;>rfl
theorem A1n (id:Id) (n:Nat) (k:PA→List EB→M α) (rows:Rows) (st:Nat) (fx:Bool):A9r id n k (.mem rows st fx)=if rows.length=n then .set id .dead (k (.a (.t (.sl false (Aw rows)))) [])else .fail:=rfl
def A4o (id:Id) (p:B5) (i c n st:Nat) (k:PA→List EB→M α):EQ→M α
 | .mem rows stt fx=>if st=stt then(match C6 rows p i c with
     |some (.sl true rs)=>if rs.length=n then .set id (.mem (BR rows p i c .hole) (stt+1) fx) (k (.a (.ln rs)) [.cell id p i c])else .fail
     |_=> .fail)else .fail
 | .dead=> .fail
theorem tI (id:Id) (p:B5) (i c n st:Nat) (k:PA→List EB→M α):ER .ref (.sub id p i c n st) k= .get id (A4o id p i c n st k):=by
 simp only[ER];congr 1;funext e;cases e<;>rfl
theorem zL (id:Id) (p:B5) (i c n st:Nat) (k:PA→List EB→M α) (rows:Rows) (stt:Nat) (fx:Bool):A4o id p i c n st k (.mem rows stt fx)=if st=stt then(match C6 rows p i c with
     |some (.sl true rs)=>if rs.length=n then .set id (.mem (BR rows p i c .hole) (stt+1) fx) (k (.a (.ln rs)) [.cell id p i c])else .fail
     |_=> .fail)else .fail:=rfl
def A4p (id:Id) (off:Nat) (k:PA→List EB→M α):EQ→M α
 | .mem [cells] stt fx=>if off<cells.length then .set id .dead (k (.a (.lp cells off)) [.root id stt fx [cells]])else .fail
 |_=> .fail
theorem A4q (md:Md) (id:Id) (off st:Nat) (k:PA→List EB→M α):ER md (.ptr id [] 0 off 1 st) k= .get id (A4p id off k):=by
 simp only[ER,List.isEmpty_nil,decide_true,Bool.and_self,if_true];rfl
theorem zM (id:Id) (off:Nat) (k:PA→List EB→M α) (cells:List T) (stt:Nat) (fx:Bool):A4p id off k (.mem [cells] stt fx)=if off<cells.length then .set id .dead (k (.a (.lp cells off)) [.root id stt fx [cells]])else .fail:=rfl
theorem A8Q (md:Md) (cs:List T) (k:PA→List EB→M α):ER md (.pp cs) k=k (.a (.pp cs)) []:=by simp only[ER]
theorem A8R (md:Md) (f:FuncId) (caps:List V) (k:PA→List EB→M α):ER md (.fn f caps) k=TN .ref caps fun as bs=>k (.a (.fn f (as.map PA.arg))) bs:=by simp only[ER]
theorem A1o (md:Md) (k:List PA→List EB→M α):TN md [] k=k [] []:=by simp only[TN]
theorem zN (md:Md) (v:V) (vs:List V) (k:List PA→List EB→M α):TN md (v::vs) k=ER md v fun a b=>TN md vs fun as bs=>k (a::as) (b++bs):=by simp only[TN]
theorem tJ (mds:List Md) (k:List PA→List EB→M α):I8 mds [] k=k [] []:=by simp only[I8]
theorem zO (v:V) (vs:List V) (k:List PA→List EB→M α):I8 [] (v::vs) k=ER .val v fun a b=>I8 [] vs fun as bs=>k (a::as) (b++bs):=rfl
theorem zP (md:Md) (mds:List Md) (v:V) (vs:List V) (k:List PA→List EB→M α):I8 (md::mds) (v::vs) k=ER md v fun a b=>I8 mds vs fun as bs=>k (a::as) (b++bs):=rfl
def lX (k:T→M α) (rows:Rows):M α:=k (.sl false (Aw rows))
theorem wc (k:T→M α) (rows:Rows):lX k rows=k (.sl false (Aw rows)):=rfl
theorem A1p (c:T) (k:T→M α):HE (.t c) k=k c:=rfl
theorem we (k:T→M α):HE .nil k=k (.sl false []):=rfl
theorem wg (id:Id) (n:Nat) (k:T→M α):HE (.ref id n) k=Fn (.ref id n) (lX k):=rfl
theorem wh (id:Id) (p:B5) (i c n st:Nat) (k:T→M α):HE (.sub id p i c n st) k=Fn (.sub id p i c n st) (lX k):=rfl
theorem tK (k:List T→M α):R5 [] k=k []:=rfl
theorem pG (v:V) (vs:List V) (k:List T→M α):R5 (v::vs) k=HE v fun t=>R5 vs fun ts=>k (t::ts):=rfl
theorem A4r (x:M4) (k:M4→M α):Vz (.a x) k=k x:=rfl
theorem zQ (cs:List V) (k:M4→M α):Vz (.v (.agg cs)) k=R5 cs fun ts=>k (.agg (ts.map M4.t)):=rfl
theorem zR (id:Id) (n:Nat) (k:M4→M α):Vz (.v (.ref id n)) k=HE (.ref id n) fun t=>k (.t t):=rfl
theorem zS (id:Id) (p:B5) (i c n st:Nat) (k:M4→M α):Vz (.v (.sub id p i c n st)) k=HE (.sub id p i c n st) fun t=>k (.t t):=rfl
theorem wi (k:List M4→M α):SQ [] k=k []:=rfl
theorem tL (p:PA) (ps:List PA) (k:List M4→M α):SQ (p::ps) k=Vz p fun a=>SQ ps fun as=>k (a::as):=rfl
theorem wj (m:M α):ET [] [] m=m:=rfl
def pbE (id:Id) (st:Nat) (fx:Bool) (rows0:Rows) (o:Option Rows) (m:M α):EQ→M α
 | .dead=>(match o with
    |some rows=>if rows.map (·.length)=rows0.map (·.length)then .set id (.mem rows (st+1) fx) m else .fail
    |none=>m)
 |_=> .fail
theorem tM (id:Id) (st:Nat) (fx:Bool) (rows0:Rows) (bs:List EB) (o:Option Rows) (os:List (Option Rows)) (m:M α):ET (.root id st fx rows0::bs) (o::os) m= .get id (pbE id st fx rows0 o (ET bs os m)):=by
 rfl
theorem A4s (id:Id) (st:Nat) (fx:Bool) (rows0 rows:Rows) (m:M α):pbE id st fx rows0 (some rows) m .dead=if rows.map (·.length)=rows0.map (·.length)then .set id (.mem rows (st+1) fx) m else .fail:=rfl
theorem A4t (id:Id) (st:Nat) (fx:Bool) (rows0:Rows) (m:M α):pbE id st fx rows0 none m .dead=m:=rfl
def pbC (id:Id) (p:B5) (i c:Nat) (o:Option Rows) (m:M α):EQ→M α
 | .mem rows stt fx=>(match o with
    |some rs=> .set id (.mem (BR rows p i c (.sl true rs)) (stt+1) fx) m
    |none=>m)
 |_=> .fail
theorem tN (id:Id) (p:B5) (i c:Nat) (bs:List EB) (o:Option Rows) (os:List (Option Rows)) (m:M α):ET (.cell id p i c::bs) (o::os) m= .get id (pbC id p i c o (ET bs os m)):=by
 rfl
theorem A4u (id:Id) (p:B5) (i c:Nat) (rs rows:Rows) (stt:Nat) (fx:Bool) (m:M α):pbC id p i c (some rs) m (.mem rows stt fx)= .set id (.mem (BR rows p i c (.sl true rs)) (stt+1) fx) m:=rfl
theorem tO (bs:List EB) (o:Option Rows) (os:List (Option Rows)) (m:M α):ET (.none::bs) (o::os) m=ET bs os m:=rfl
end
theorem A8S (n:Nat) (ag:Bool) (id:Id) (p:B5) (i off m st:Nat):ldV n ag (.ptr id p i off m st)= .get id (ldE n ag id p i off m st):=rfl
theorem ABU (n:Nat) (ag:Bool) (id:Id) (off st:Nat) (cs:List V):ldV n ag (.vb id off st cs)= .get id (ldX n ag off st cs):=rfl
theorem A8T (n:Nat) (ag:Bool) (off st:Nat) (cs:List V) (rows:Rows) (stt:Nat) (fx:Bool):ldX n ag off st cs (.mem rows stt fx)=if(st=stt∧rows.length=1)∧off+n≤cs.length then iX ag ((cs.drop off).take n)else .fail:=rfl
theorem ABV (off:Nat) (id:Id) (o st:Nat) (cs:List V):faV off (.vb id o st cs)= .ret (.vb id (o+off) st cs):=rfl
theorem A4v (d:Nat) (cs:List V):ACi d (.agg cs)=if cs.isEmpty|| !cs.all V.one then .fail else .new [.mem [List.replicate cs.length .hole] 0 false] (.ret (.vb (d,0) 0 0 cs)):=rfl
theorem A4w (n:Nat) (id:Id) (st:Nat) (cs:List V):A7b n (.ptr id [] 0 0 1 st) (.agg cs)=if cs.length=n∧cs.all V.one=true then .get id (A7a id n cs)else .fail:=rfl
theorem A8U (n:Nat) (id:Id) (st:Nat) (cs0 cs:List V):A7b n (.vb id 0 st cs0) (.agg cs)=if cs.length=n∧cs.all V.one=true then .get id (A7a id n cs)else .fail:=rfl
theorem A4x (id:Id) (n:Nat) (cs:List V) (row:List T) (stt:Nat) (fx:Bool):A7a id n cs (.mem [row] stt fx)=if row.length=n then .set id (.mem [List.replicate n .hole] (stt+1) fx) (.ret (.vb id 0 (stt+1) cs))else .fail:=rfl
theorem ACy (c:T):V.one (.t c)=true:=rfl
theorem A8V : V.one .nil=true:=rfl
theorem A8W (id:Id) (n:Nat):V.one (.ref id n)=true:=rfl
theorem A8X (id:Id) (p:B5) (i c n st:Nat):V.one (.sub id p i c n st)=true:=rfl
theorem ABW (n:Nat) (ag:Bool) (cs:List T):ldV n ag (.pp cs)=if n≤cs.length then iX ag ((cs.take n).map tV)else .fail:=rfl
theorem A8Y (n:Nat) (ag:Bool) (id:Id) (p:B5) (i off m st:Nat) (rows:Rows) (stt:Nat) (fx:Bool):ldE n ag id p i off m st (.mem rows stt fx)=C8 (DN rows stt p i m st) fun row=>if off+n≤row.length then iX ag (PJ id p i off stt ((row.drop off).take n))else .fail:=rfl
theorem A8Z (id:Id) (p:B5) (i off m st n:Nat) (ts:List T) (rows:Rows) (stt:Nat) (fx:Bool):stE id p i off m st n ts (.mem rows stt fx)=C8 (DN rows stt p i m st) fun row=>if ts.length=n∧off+n≤row.length then .set id (.mem (IQ rows p i off ts) (stt+1) fx) (.ret .dead)else .fail:=rfl
theorem zT (rows:Rows) (p:B5) (i c:Nat):IQ rows p i c []=rows:=rfl
theorem zU (rows:Rows) (p:B5) (i c:Nat) (t:T) (ts:List T):IQ rows p i c (t::ts)=IQ (BR rows p i c t) p i (c+1) ts:=rfl
theorem A4y (rows:Rows) (i c:Nat) (t:T):BR rows [] i c t=HC rows i c t:=rfl
theorem A1q (row:List T) (c:Nat) (t:T):HC [row] 0 c t=[row.set c t]:=rfl
theorem A1r (a:Id) (b:B5) (c d e f:Nat):A0e (.ptr a b c d e f)= .ret (.ptr a b c d e f):=rfl
theorem A4z (cs:List T):A0e (.pp cs)= .ret (.pp cs):=rfl
theorem A50 (f:FuncId) (caps:List V):A0e (.fn f caps)= .ret (.fn f caps):=rfl
theorem A51 (d:Nat) (z:List T) (byt:Nat) (k:IntKind) (n:Int):AB6 d z byt (.t (.v (.int k n)))=C8 (mkN n byt) fun m=> .new [.mem (List.replicate m z) 0 false] (.ret (.ref (d,0) m)):=rfl
theorem ABX (sz:Nat) (row:List T):iaP sz row=if row.length=sz then .ret (.pp row)else .fail:=rfl
theorem A8a (sz:Nat) (id:Id) (p:B5) (n m st:Nat) (row:List T):iaK sz id p n m st row=if row.length=sz then .ret (.ptr id p n 0 m st)else .fail:=rfl
theorem ABY (sz:Nat) (id:Id) (p:B5) (n:Int) (m st:Nat) (rows:Rows):iaS sz id p n m st rows=if rows.length=m then C8 (AZ rows n) (iaK sz id p n.toNat m st)else .fail:=rfl
theorem A8b (sz:Nat) (id:Id) (m:Nat) (n:Int) (rows:Rows) (st:Nat) (fx:Bool):iaE sz id m n (.mem rows st fx)=iaS sz id [] n m 0 rows:=rfl
theorem ABZ (d:Nat) (md:List Md) (own:List Bool) (args:List V) (f:FuncId) (caps:List V):cvv d md own args (.fn f caps)=XW d f (md++(caps.map fun _=>Md.ref)) own (args++caps):=rfl
def A0h (d:Nat) (own:List Bool) (ps:List PA) (bs:List EB) (res:Ay):M V:=
 if(ps.any PA.reads)&& !res.allOwn then .fail else ET bs res.after
  (let a:=Hp d 0 own res.vals;if a.2.isEmpty then .ret (UM a.1)else .new a.2 (.ret (UM a.1)))
def A9s (d:Nat) (f:FuncId) (own:List Bool) (ps:List PA) (bs:List EB):M V:=
 if !D5 (BN bs)then .fail else SQ ps fun as=> .call f as (A0h d own ps bs)
theorem A1s (d:Nat) (f:FuncId) (md:List Md) (own:List Bool) (args:List V):XW d f md own args=I8 md args (A9s d f own):=rfl
theorem A52 (d:Nat) (f:FuncId) (own:List Bool) (ps:List PA) (bs:List EB):A9s d f own ps bs=if !D5 (BN bs)then .fail else SQ ps fun as=> .call f as (A0h d own ps bs):=rfl
def ABa (as:List V):List EQ→M V
 | []=> .ret (UM as)
 |e::es=> .new (e::es) (.ret (UM as))
theorem A53 (d:Nat) (own:List Bool) (ps:List PA) (bs:List EB) (vals:List RV) (after:List (Option Rows)):A0h d own ps bs ⟨vals,after⟩=
  if(ps.any PA.reads)&& !(Ay.mk vals after).allOwn then .fail else ET bs after (ABa (Hp d 0 own vals).1 (Hp d 0 own vals).2):=by
 simp only[A0h]
 congr 2
 generalize Hp d 0 own vals=a
 obtain⟨a,b⟩:=a
 cases b<;>rfl
theorem A54 (as:List V):ABa as []= .ret (UM as):=rfl
theorem A1t (as:List V) (e:EQ) (es:List EQ):ABa as (e::es)= .new (e::es) (.ret (UM as)):=rfl
theorem A1u (v:V):UM [v]=v:=rfl
theorem A1v (v w:V) (vs:List V):UM (v::w::vs)= .tup (v::w::vs):=rfl
theorem A1w : UM []= .tup []:=rfl
theorem ABb (d:Nat) (own:Bool) (k:Nat) (x:Value):VO d own k (.v x)=(.t (.v x),[]):=rfl
theorem ABc (d k:Nat) (o:Bool) (rows:Rows):VO d false k (.sl o rows)=(.t (.sl false (Aw rows)),[]):=rfl
theorem ABd (d k:Nat) (rows:Rows):VO d true k (.sl true rows)=(.ref (d,k) rows.length,[.mem rows 0 false]):=rfl
theorem ABe (d k:Nat) (rows:Rows):VO d true k (.sl false rows)=(.t (.sl false (Aw rows)),[]):=rfl
theorem A55 (d:Nat) (own:Bool) (k:Nat):ke d own k []=([],[]):=rfl
theorem A1x (d:Nat) (own:Bool) (k:Nat) (t:T) (ts:List T):ke d own k (t::ts)=((VO d own k t).1::(ke d own (k+(VO d own k t).2.length) ts).1,(VO d own k t).2++(ke d own (k+(VO d own k t).2.length) ts).2):=rfl
theorem A8c (d:Nat) (own:Bool) (k:Nat) (c:T):R6 d own k (.t c)=VO d own k c:=rfl
theorem A1y (d:Nat) (own:Bool) (k:Nat) (cs:List T):R6 d own k (.agg cs)=(.agg (ke d own k cs).1,(ke d own k cs).2):=rfl
theorem A1z (d:Nat) (own:Bool) (k:Nat) (cells:List T):R6 d own k (.box cells)=(.ptr (d,k) [] 0 0 1 0,[.mem [cells] 0 false]):=rfl
theorem zW (d k:Nat) (own:List Bool):Hp d k own []=([],[]):=by cases own<;>rfl
theorem wk (d k:Nat) (o:Bool) (own:List Bool) (v:RV) (vs:List RV):Hp d k (o::own) (v::vs)=((R6 d o k v).1::(Hp d (k+(R6 d o k v).2.length) own vs).1,(R6 d o k v).2++(Hp d (k+(R6 d o k v).2.length) own vs).2):=rfl
theorem A56 (d k:Nat) (v:RV) (vs:List RV):Hp d k [] (v::vs)=((R6 d false k v).1::(Hp d (k+(R6 d false k v).2.length) [] vs).1,(R6 d false k v).2++(Hp d (k+(R6 d false k v).2.length) [] vs).2):=rfl
theorem JR {α:Type} (f g:α→List T) (h:∀x,Ho (f x)=g x) (l:List α):Aw (l.map f)=l.map g:=by
 induction l with
 |nil=>rfl
 |cons a l ih=>simp only[List.map_cons,Aw,h,ih]
theorem Ug (l:List Int):Aw (l.map rI)=l.map rI:=JR _ _ (fun _=>rfl) l
theorem WA (k:IntKind) (l:List Int):Aw (l.map (rK k))=l.map (rK k):=JR _ _ (fun _=>rfl) l
theorem WB (l:List ByteArray):Aw (l.map rS)=l.map rS:=JR _ _ (fun _=>rfl) l
theorem WC (l:List Bool):Aw (l.map rB)=l.map rB:=JR _ _ (fun _=>rfl) l
theorem SR (o:Bool) (l:List (List Int)):Aw (l.map (rL o rI))=l.map (rL false rI):=JR _ _ (fun x=>by simp only[rL,Ho,frz,Ug]) l
theorem JS {α:Type} (f:α→List T) (h:∀x,EU (f x)=true) (l:List α):Bm (l.map f)=true:=by
 induction l with
 |nil=>rfl
 |cons a l ih=>simp only[List.map_cons,Bm,h,ih,Bool.and_self]
theorem Uh (l:List Int):Bm (l.map rI)=true:=JS _ (fun _=>rfl) l
theorem WD (k:IntKind) (l:List Int):Bm (l.map (rK k))=true:=JS _ (fun _=>rfl) l
theorem WE (l:List ByteArray):Bm (l.map rS)=true:=JS _ (fun _=>rfl) l
theorem WF (l:List Bool):Bm (l.map rB)=true:=JS _ (fun _=>rfl) l
theorem ST (l:List (List Int)):Bm (l.map (rL true rI))=true:=JS _ (fun x=>by simp only[rL,EU,allOwn,Uh,Bool.and_self]) l
theorem ABf (vals:List RV) (after:List (Option Rows)):(Ay.mk vals after).allOwn=(vals.all RV.allOwn&&after.all fun o=>match o with|some rows=>Bm rows|none=>true):=rfl
theorem HP {α:Type} (f:α→List T) (sz:Nat) (h:∀x,(f x).length=sz) (l:List α):((l.map f).all fun r=>r.length==sz)=true:=by
 simp[List.all_map,h]
theorem ABg (l:List Int):((l.map rI).all fun r=>r.length==1)=true:=HP _ _ (fun x=>by rfl) l
theorem ABh (k:IntKind) (l:List Int):((l.map (rK k)).all fun r=>r.length==1)=true:=HP _ _ (fun x=>by rfl) l
theorem ABi (l:List ByteArray):((l.map rS).all fun r=>r.length==1)=true:=HP _ _ (fun x=>by rfl) l
theorem ABj (l:List Bool):((l.map rB).all fun r=>r.length==1)=true:=HP _ _ (fun x=>by rfl) l
theorem ABk {α:Type} (o:Bool) (f:α→List T) (l:List (List α)):((l.map (rL o f)).all fun r=>r.length==1)=true:=HP _ _ (fun x=>by rfl) l
theorem ACz (ts:List Nat) (c:T):V.mentions ts (.t c)=false:=by simp only[V.mentions]
theorem A8d (ts:List Nat):V.mentions ts .nil=false:=by simp only[V.mentions]
theorem A57 (ts:List Nat):V.mentions ts .dead=false:=by simp only[V.mentions]
theorem ABl (ts:List Nat) (c:List T):V.mentions ts (.pp c)=false:=by simp only[V.mentions]
theorem ABm {α:Type} (c:T) (k:RV→M α):kh (.t c) k=k (.t c):=rfl
theorem A58 {α:Type} (k:RV→M α):kh .nil k=k (.t (.sl true [])):=rfl
theorem A59 {α:Type} (id:Id) (n:Nat) (k:RV→M α):kh (.ref id n) k=take (.ref id n) fun t=>k (.t t):=rfl
theorem ABn {α:Type} (c:T) (k:T→M α):vI (.t c) k=k c:=rfl
theorem A5A {α:Type} (id:Id) (n:Nat) (k:T→M α):vI (.ref id n) k=take (.ref id n) k:=rfl
theorem ABo (c:T):V.isDead (.t c)=false:=rfl
theorem A5B : V.isDead .nil=false:=rfl
theorem A5C (cs:List V):V.isDead (.agg cs)=false:=rfl
theorem A5D (id:Id) (n:Nat):V.isDead (.ref id n)=false:=rfl
theorem A5E (id:Id) (p:B5) (i c n st:Nat):V.isDead (.sub id p i c n st)=false:=rfl
theorem A5F (id:Id) (p:B5) (i off n st:Nat):V.isDead (.ptr id p i off n st)=false:=rfl
theorem A8e (cs:List T):V.isDead (.pp cs)=false:=rfl
theorem A8f (f:FuncId) (caps:List V):V.isDead (.fn f caps)=false:=rfl
theorem A8g (k:IntKind) (a b:Int):eqK .int (.t (.v (.int k a))) (.t (.v (.int k b)))=some (AX a b):=by simp[eqK,AX]
theorem A8h (a b:ByteArray):eqK .str (.t (.v (.string a))) (.t (.v (.string b)))=some (Bq a b):=rfl
theorem A5G (a b:Bool):eqK .bool (.t (.v (.bool a))) (.t (.v (.bool b)))=some (eqB a b):=rfl
theorem zX (n:Int) (rs:Rows):Cp ([.v (.int .u8 n)]::rs)=(Cp rs).map fun l=>UInt8.ofNat n.toNat::l:=by simp[Cp]
end TT
