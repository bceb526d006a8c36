import Derived.Test.YtpmnlfgdicmiiaaGreatDoorTH2
set_option linter.unusedVariables false
set_option linter.unusedSimpArgs false
set_option linter.defProp false
namespace TT
open Go
theorem ABv (FT:Env) (d:Nat) (o:O) (rd wr:List Nat) (s:List V) (r:R):opR FT false d o rd wr s r=(BL s d o).run (dn FT) d r:=rfl
theorem ABw (FT:Env) (d:Nat) (o:O) (rd wr:List Nat) (s:List V) (r:R):opR FT true d o rd wr s r=(BL s d o).runA (dn FT) d rd wr r:=rfl
theorem A3r {α β:Type} (f:α→β) (l:List α):AD (l.map f)=AD l:=by simp[AD]
theorem A7b {α:Type} (l:List α):((List.length l:Nat):Int)=AD l:=rfl
theorem A3s {α β:Type} (f:α→β) (l:List α) (i:Int):getI (l.map f) i=(getI l i).map f:=by
 simp only[getI,List.getElem?_map];split<;>rfl
theorem A7c {α β:Type} (f:α→β) (l:List α) (i j:Int):slL (l.map f) i j=(slL l i j).map (List.map f):=by
 simp only[slL,List.length_map];split<;>simp[List.map_take,List.map_drop]
theorem ZT {α β:Type} (a:α) (k:α→M β):CT (some a) k=k a:=rfl
theorem A0n {α β:Type} (k:α→M β):CT none k= .fail:=rfl
theorem A3t {α β γ:Type} (f:α→β) (o:Option α) (k:β→M γ):CT (o.map f) k=CT o fun a=>k (f a):=by cases o<;>rfl
theorem ABx (nt:Nat) (args:List NH):(enter nt args).s=(Rj 0 args).map (·.1)++List.replicate (nt-args.length) .dead:=rfl
theorem ABy (nt:Nat) (args:List NH):(enter nt args).r=(Rj 0 args).map (·.2)++List.replicate (nt-args.length) []:=rfl
theorem yD (rows:Rows) (stt i n st:Nat):Dw rows stt [] i n st=if rows.length=n then rows[i]? else none:=rfl
theorem A0o {α:Type} (a:α) (l:List α) (d:α):(a::l).getD 0 d=a:=rfl
theorem A0p {α:Type} (a:α) (l:List α) (i:Nat) (d:α):(a::l).getD (i+1) d=l.getD i d:=rfl
theorem A3u {α:Type} (i:Nat) (d:α):([]:List α).getD i d=d:=rfl
theorem A0q {α:Type} (a:α) (l:List α):(a::l)[0]? =some a:=rfl
theorem A0r {α:Type} (a:α) (l:List α) (i:Nat):(a::l)[i+1]? =l[i]? :=rfl
theorem A3v {α:Type} (a b:α) (l:List α):(a::l).set 0 b=b::l:=rfl
theorem A3w {α:Type} (a b:α) (l:List α) (i:Nat):(a::l).set (i+1) b=a::l.set i b:=rfl
theorem A3x (a b c d:Nat):(((a,b):Nat×Nat)==(c,d))=(a==c&&b==d):=rfl
theorem A7d (s:List V) (t:Nat):A9 s (.s t)=s.getD t .dead:=rfl
theorem A7e (s:List V) (x:Value):A9 s (.c x)=Uw x:=rfl
theorem A7f (s:List V) (f:FuncId):A9 s (.f f)= .fn f []:=rfl
theorem A7g (s:List V) (cs:List T):A9 s (.z cs)= .agg (cs.map zV):=rfl
theorem yE (k:IntKind) (n:Int):Uw (.int k n)= .t (.v (.int k n)):=rfl
theorem vH (b:Bool):Uw (.bool b)= .t (.v (.bool b)):=rfl
theorem yF (q:Option Addr):Uw (.pointer q)= .t (.v (.pointer q)):=rfl
theorem yG (x:ByteArray):Uw (.string x)= .t (.v (.string x)):=rfl
theorem vI : Uw .nilIface= .t (.v .nilIface):=rfl
theorem yH : Uw (.slice none 0 0)= .nil:=rfl
theorem A7h (id:Id) (p:Path) (i c st:Nat) (x:Value):Lq id p i c st (.v x)= .t (.v x):=rfl
theorem A0s (id:Id) (p:Path) (i c st:Nat) (rows:Rows):Lq id p i c st (.sl true rows)= .sub id p i c rows.length st:=rfl
theorem A3y (id:Id) (p:Path) (i c st:Nat) (rows:Rows):Lq id p i c st (.sl false rows)= .t (.sl false rows):=rfl
theorem yI (id:Id) (p:Path) (i c st:Nat):Lq id p i c st .hole= .dead:=rfl
theorem A3z (id:Id) (p:Path) (i c st:Nat) (cs:List T):Lq id p i c st (.pp cs)= .pp cs:=rfl
theorem A40 (id:Id) (p:Path) (i c st:Nat) (f:FuncId) (cs:List (List T)):Lq id p i c st (.fn f cs)= .fn f (cs.map V.pp):=rfl
theorem ACX (x:Value):tV (.v x)= .t (.v x):=rfl
theorem ABz (o:Bool) (rows:Rows):tV (.sl o rows)= .t (.sl o rows):=rfl
theorem AC0 (cs:List T):tV (.pp cs)= .pp cs:=rfl
theorem AC1 (f:FuncId) (cs:List (List T)):tV (.fn f cs)= .fn f (cs.map V.pp):=rfl
theorem yJ (id:Id) (p:Path) (i c st:Nat):Pb id p i c st []=[]:=rfl
theorem vJ (id:Id) (p:Path) (i c st:Nat) (t:T) (ts:List T):Pb id p i c st (t::ts)=Lq id p i c st t::Pb id p i (c+1) st ts:=rfl
theorem vK (cs:List V):cellsOf (.agg cs)=cs:=rfl
theorem A0t (c:T):cellsOf (.t c)=[.t c]:=rfl
theorem yK (cs:List T):cellsOf (.pp cs)=[.pp cs]:=rfl
theorem yL (f:FuncId) (cs:List V):cellsOf (.fn f cs)=[.fn f cs]:=rfl
theorem vL : cellsOf .nil=[.nil]:=rfl
theorem vM (id:Id) (n:Nat):cellsOf (.ref id n)=[.ref id n]:=rfl
theorem vN (id:Id) (p:Path) (i c n st:Nat):cellsOf (.sub id p i c n st)=[.sub id p i c n st]:=rfl
section
variable {α:Type}
theorem AAd (c:T) (k:T→M α):take (.t c) k=k c:=rfl
theorem A7i (cs:List T) (k:T→M α):take (.pp cs) k=k (.pp cs):=rfl
theorem A41 (f:FuncId) (k:T→M α):take (.fn f []) k=k (.fn f []):=rfl
theorem A42 (f:FuncId) (a:List T) (k:T→M α):take (.fn f [.pp a]) k=k (.fn f [a]):=rfl
theorem A43 (f:FuncId) (a b:List T) (k:T→M α):take (.fn f [.pp a, .pp b]) k=k (.fn f [a,b]):=rfl
theorem A44 (f:FuncId) (a b c:List T) (k:T→M α):take (.fn f [.pp a, .pp b, .pp c]) k=k (.fn f [a,b,c]):=rfl
theorem take_nil (k:T→M α):take .nil k=k (.sl true []):=rfl
def A8z (id:Id) (n:Nat) (k:T→M α):FA→M α
 | .mem rows _ fx=>if rows.length=n then .set id .dead (k (.sl true rows))else .fail
 | .dead=> .fail
theorem A45 (id:Id) (n:Nat) (k:T→M α):take (.ref id n) k= .get id (A8z id n k):=by
 simp only[take];congr 1;funext e;cases e<;>rfl
theorem A0u (id:Id) (n:Nat) (k:T→M α) (rows:Rows) (st:Nat) (fx:Bool):A8z id n k (.mem rows st fx)=if rows.length=n then .set id .dead (k (.sl true rows))else .fail:=rfl
def A46 (id:Id) (p:Path) (i c n st:Nat) (k:T→M α):FA→M α
 | .mem rows stt fx=>if st=stt then(match CR rows p i c with
     |some (.sl true rs)=>if rs.length=n then .set id (.mem (Bn rows p i c .hole) stt fx) (k (.sl true rs))else .fail
     |_=> .fail)else .fail
 | .dead=> .fail
theorem A47 (id:Id) (p:Path) (i c n st:Nat) (k:T→M α):take (.sub id p i c n st) k= .get id (A46 id p i c n st k):=by
 simp only[take];congr 1;funext e;cases e<;>rfl
theorem yM (id:Id) (p:Path) (i c n st:Nat) (k:T→M α) (rows:Rows) (stt:Nat) (fx:Bool):A46 id p i c n st k (.mem rows stt fx)=if st=stt then(match CR rows p i c with
     |some (.sl true rs)=>if rs.length=n then .set id (.mem (Bn rows p i c .hole) stt fx) (k (.sl true rs))else .fail
     |_=> .fail)else .fail:=rfl
theorem A0v (k:List T→M α):FN [] k=k []:=rfl
theorem yN (v:V) (vs:List V) (k:List T→M α):FN (v::vs) k=take v fun t=>FN vs fun ts=>k (t::ts):=rfl
theorem re (k:Rows→M α):E2 [] k=k []:=rfl
theorem nv (vs:List V) (vss:List (List V)) (k:Rows→M α):E2 (vs::vss) k=FN vs fun r=>E2 vss fun rs=>k (r::rs):=rfl
theorem A48 (o:Bool) (rows:Rows) (k:Rows→M α):GO (.t (.sl o rows)) k=k rows:=rfl
theorem yO (k:Rows→M α):GO .nil k=k []:=rfl
def A90 (n:Nat) (k:Rows→M α):FA→M α
 | .mem rows _ _=>if rows.length=n then k rows else .fail
 | .dead=> .fail
theorem yP (id:Id) (n:Nat) (k:Rows→M α):GO (.ref id n) k= .get id (A90 n k):=by
 simp only[GO];congr 1;funext e;cases e<;>rfl
theorem A0w (n:Nat) (k:Rows→M α) (rows:Rows) (st:Nat) (fx:Bool):A90 n k (.mem rows st fx)=if rows.length=n then k rows else .fail:=rfl
def A49 (p:Path) (i c n st:Nat) (k:Rows→M α):FA→M α
 | .mem rows stt _=>if st=stt then(match CR rows p i c with
     |some (.sl true rs)=>if rs.length=n then k rs else .fail
     |_=> .fail)else .fail
 | .dead=> .fail
theorem yQ (id:Id) (p:Path) (i c n st:Nat) (k:Rows→M α):GO (.sub id p i c n st) k= .get id (A49 p i c n st k):=by
 simp only[GO];congr 1;funext e;cases e<;>rfl
theorem yR (p:Path) (i c n st:Nat) (k:Rows→M α) (rows:Rows) (stt:Nat) (fx:Bool):A49 p i c n st k (.mem rows stt fx)=if st=stt then(match CR rows p i c with
     |some (.sl true rs)=>if rs.length=n then k rs else .fail
     |_=> .fail)else .fail:=rfl
theorem A4A (o:Bool) (rows:Rows) (k:Rows→M α):IT (.t (.sl o rows)) k=k rows:=rfl
def rf (k:Rows→M α):T→M α
 | .sl true rows=>k rows
 |_=> .fail
theorem A4B (q:Option Addr) (c:Nat) (k:Rows→M α):IT (.t (.v (.slice q 0 c))) k=k []:=rfl
theorem yS (k:Rows→M α):IT .nil k=k []:=rfl
theorem yT (id:Id) (n:Nat) (k:Rows→M α):IT (.ref id n) k=take (.ref id n) (rf k):=by
 rfl
theorem yU (id:Id) (p:Path) (i c n st:Nat) (k:Rows→M α):IT (.sub id p i c n st) k=take (.sub id p i c n st) (rf k):=by
 rfl
theorem yV (rows:Rows) (k:Rows→M α):rf k (.sl true rows)=k rows:=rfl
theorem AAe (md:Md) (c:T) (k:PA→List Ep→M α):FB md (.t c) k=k (.a (.t c)) []:=by simp only[FB]
theorem rg (k:PA→List Ep→M α):FB .val .nil k=k (.a (.t (.sl false []))) []:=by simp only[FB]
theorem nw (k:PA→List Ep→M α):FB .give .nil k=k (.a (.t (.sl false []))) []:=by simp only[FB]
theorem rh (k:PA→List Ep→M α):FB .ref .nil k=k (.a (.ln [])) [.none]:=by simp only[FB]
theorem ri (cs:List V) (k:PA→List Ep→M α):FB .val (.agg cs) k=k (.v (.agg cs)) []:=by simp only[FB]
theorem rj (cs:List V) (k:PA→List Ep→M α):FB .ref (.agg cs) k=Th .ref cs fun as bs=>k (.a (.agg (as.map PA.arg))) bs:=by simp only[FB]
theorem nx (cs:List V) (k:PA→List Ep→M α):FB .give (.agg cs) k=Th .give cs fun as bs=>k (.a (.agg (as.map PA.arg))) bs:=by simp only[FB]
theorem rl (id:Id) (n:Nat) (k:PA→List Ep→M α):FB .val (.ref id n) k=k (.v (.ref id n)) []:=by simp only[FB]
theorem rn (id:Id) (p:Path) (i c n st:Nat) (k:PA→List Ep→M α):FB .val (.sub id p i c n st) k=k (.v (.sub id p i c n st)) []:=by simp only[FB]
def A91 (id:Id) (n:Nat) (k:PA→List Ep→M α):FA→M α
 | .mem rows st fx=>if rows.length=n then .set id .dead (k (.a (.ln rows)) [.root id st fx rows])else .fail
 | .dead=> .fail
theorem ro (id:Id) (n:Nat) (k:PA→List Ep→M α):FB .ref (.ref id n) k= .get id (A91 id n k):=by
 simp only[FB];congr 1;funext e;cases e<;>rfl
theorem A0x (id:Id) (n:Nat) (k:PA→List Ep→M α) (rows:Rows) (st:Nat) (fx:Bool):A91 id n k (.mem rows st fx)=if rows.length=n then .set id .dead (k (.a (.ln rows)) [.root id st fx rows])else .fail:=rfl
def A92 (id:Id) (n:Nat) (k:PA→List Ep→M α):FA→M α
 | .mem rows st fx=>if rows.length=n then .set id .dead (k (.a (.t (.sl false (Az rows)))) [])else .fail
 | .dead=> .fail
theorem ny (id:Id) (n:Nat) (k:PA→List Ep→M α):FB .give (.ref id n) k= .get id (A92 id n k):=by
 simp only[FB];congr 1;funext e;cases e<;>rfl
theorem A0y (id:Id) (n:Nat) (k:PA→List Ep→M α) (rows:Rows) (st:Nat) (fx:Bool):A92 id n k (.mem rows st fx)=if rows.length=n then .set id .dead (k (.a (.t (.sl false (Az rows)))) [])else .fail:=rfl
def A4C (id:Id) (p:Path) (i c n st:Nat) (k:PA→List Ep→M α):FA→M α
 | .mem rows stt fx=>if st=stt then(match CR rows p i c with
     |some (.sl true rs)=>if rs.length=n then .set id (.mem (Bn rows p i c .hole) (stt+1) fx) (k (.a (.ln rs)) [.cell id p i c])else .fail
     |_=> .fail)else .fail
 | .dead=> .fail
theorem rp (id:Id) (p:Path) (i c n st:Nat) (k:PA→List Ep→M α):FB .ref (.sub id p i c n st) k= .get id (A4C id p i c n st k):=by
 simp only[FB];congr 1;funext e;cases e<;>rfl
theorem yW (id:Id) (p:Path) (i c n st:Nat) (k:PA→List Ep→M α) (rows:Rows) (stt:Nat) (fx:Bool):A4C id p i c n st k (.mem rows stt fx)=if st=stt then(match CR rows p i c with
     |some (.sl true rs)=>if rs.length=n then .set id (.mem (Bn rows p i c .hole) (stt+1) fx) (k (.a (.ln rs)) [.cell id p i c])else .fail
     |_=> .fail)else .fail:=rfl
def A4D (id:Id) (off:Nat) (k:PA→List Ep→M α):FA→M α
 | .mem [cells] stt fx=>if off<cells.length then .set id .dead (k (.a (.lp cells off)) [.root id stt fx [cells]])else .fail
 |_=> .fail
theorem A4E (md:Md) (id:Id) (off st:Nat) (k:PA→List Ep→M α):FB md (.ptr id [] 0 off 1 st) k= .get id (A4D id off k):=by
 simp only[FB,List.isEmpty_nil,decide_true,Bool.and_self,if_true];rfl
theorem yX (id:Id) (off:Nat) (k:PA→List Ep→M α) (cells:List T) (stt:Nat) (fx:Bool):A4D id off k (.mem [cells] stt fx)=if off<cells.length then .set id .dead (k (.a (.lp cells off)) [.root id stt fx [cells]])else .fail:=rfl
theorem A7j (md:Md) (cs:List T) (k:PA→List Ep→M α):FB md (.pp cs) k=k (.a (.pp cs)) []:=by simp only[FB]
theorem A7k (md:Md) (f:FuncId) (caps:List V) (k:PA→List Ep→M α):FB md (.fn f caps) k=Th .ref caps fun as bs=>k (.a (.fn f (as.map PA.arg))) bs:=by simp only[FB]
theorem A0z (md:Md) (k:List PA→List Ep→M α):Th md [] k=k [] []:=by simp only[Th]
theorem yY (md:Md) (v:V) (vs:List V) (k:List PA→List Ep→M α):Th md (v::vs) k=FB md v fun a b=>Th md vs fun as bs=>k (a::as) (b++bs):=by simp only[Th]
theorem rq (mds:List Md) (k:List PA→List Ep→M α):Ja mds [] k=k [] []:=by simp only[Ja]
theorem yZ (v:V) (vs:List V) (k:List PA→List Ep→M α):Ja [] (v::vs) k=FB .val v fun a b=>Ja [] vs fun as bs=>k (a::as) (b++bs):=rfl
theorem ya (md:Md) (mds:List Md) (v:V) (vs:List V) (k:List PA→List Ep→M α):Ja (md::mds) (v::vs) k=FB md v fun a b=>Ja mds vs fun as bs=>k (a::as) (b++bs):=rfl
def kZ (k:T→M α) (rows:Rows):M α:=k (.sl false (Az rows))
theorem vO (k:T→M α) (rows:Rows):kZ k rows=k (.sl false (Az rows)):=rfl
theorem A10 (c:T) (k:T→M α):IF (.t c) k=k c:=rfl
theorem vP (k:T→M α):IF .nil k=k (.sl false []):=rfl
theorem vQ (id:Id) (n:Nat) (k:T→M α):IF (.ref id n) k=GO (.ref id n) (kZ k):=rfl
theorem vR (id:Id) (p:Path) (i c n st:Nat) (k:T→M α):IF (.sub id p i c n st) k=GO (.sub id p i c n st) (kZ k):=rfl
theorem rr (k:List T→M α):RF [] k=k []:=rfl
theorem o6 (v:V) (vs:List V) (k:List T→M α):RF (v::vs) k=IF v fun t=>RF vs fun ts=>k (t::ts):=rfl
theorem A4F (x:NH) (k:NH→M α):WU (.a x) k=k x:=rfl
theorem yb (cs:List V) (k:NH→M α):WU (.v (.agg cs)) k=RF cs fun ts=>k (.agg (ts.map NH.t)):=rfl
theorem yc (id:Id) (n:Nat) (k:NH→M α):WU (.v (.ref id n)) k=IF (.ref id n) fun t=>k (.t t):=rfl
theorem yd (id:Id) (p:Path) (i c n st:Nat) (k:NH→M α):WU (.v (.sub id p i c n st)) k=IF (.sub id p i c n st) fun t=>k (.t t):=rfl
theorem vS (k:List NH→M α):Sv [] k=k []:=rfl
theorem rt (p:PA) (ps:List PA) (k:List NH→M α):Sv (p::ps) k=WU p fun a=>Sv ps fun as=>k (a::as):=rfl
theorem vT (m:M α):FC [] [] m=m:=rfl
def pbE (id:Id) (st:Nat) (fx:Bool) (rows0:Rows) (o:Option Rows) (m:M α):FA→M α
 | .dead=>(match o with
    |some rows=>if rows.map (·.length)=rows0.map (·.length)then .set id (.mem rows (st+1) fx) m else .fail
    |none=>m)
 |_=> .fail
theorem ru (id:Id) (st:Nat) (fx:Bool) (rows0:Rows) (bs:List Ep) (o:Option Rows) (os:List (Option Rows)) (m:M α):FC (.root id st fx rows0::bs) (o::os) m= .get id (pbE id st fx rows0 o (FC bs os m)):=by
 rfl
theorem A4G (id:Id) (st:Nat) (fx:Bool) (rows0 rows:Rows) (m:M α):pbE id st fx rows0 (some rows) m .dead=if rows.map (·.length)=rows0.map (·.length)then .set id (.mem rows (st+1) fx) m else .fail:=rfl
theorem A4H (id:Id) (st:Nat) (fx:Bool) (rows0:Rows) (m:M α):pbE id st fx rows0 none m .dead=m:=rfl
def pbC (id:Id) (p:Path) (i c:Nat) (o:Option Rows) (m:M α):FA→M α
 | .mem rows stt fx=>(match o with
    |some rs=> .set id (.mem (Bn rows p i c (.sl true rs)) (stt+1) fx) m
    |none=>m)
 |_=> .fail
theorem rz (id:Id) (p:Path) (i c:Nat) (bs:List Ep) (o:Option Rows) (os:List (Option Rows)) (m:M α):FC (.cell id p i c::bs) (o::os) m= .get id (pbC id p i c o (FC bs os m)):=by
 rfl
theorem A4I (id:Id) (p:Path) (i c:Nat) (rs rows:Rows) (stt:Nat) (fx:Bool) (m:M α):pbC id p i c (some rs) m (.mem rows stt fx)= .set id (.mem (Bn rows p i c (.sl true rs)) (stt+1) fx) m:=rfl
theorem s0 (bs:List Ep) (o:Option Rows) (os:List (Option Rows)) (m:M α):FC (.none::bs) (o::os) m=FC bs os m:=rfl
end
theorem A7l (n:Nat) (ag:Bool) (id:Id) (p:Path) (i off m st:Nat):ldV n ag (.ptr id p i off m st)= .get id (ldE n ag id p i off m st):=rfl
theorem AAf (n:Nat) (ag:Bool) (id:Id) (off st:Nat) (cs:List V):ldV n ag (.vb id off st cs)= .get id (ldX n ag off st cs):=rfl
theorem A7m (n:Nat) (ag:Bool) (off st:Nat) (cs:List V) (rows:Rows) (stt:Nat) (fx:Bool):ldX n ag off st cs (.mem rows stt fx)=if(st=stt∧rows.length=1)∧off+n≤cs.length then iJ ag ((cs.drop off).take n)else .fail:=rfl
theorem AAg (off:Nat) (id:Id) (o st:Nat) (cs:List V):faV off (.vb id o st cs)= .ret (.vb id (o+off) st cs):=rfl
theorem A4J (d:Nat) (cs:List V):ABm d (.agg cs)=if cs.isEmpty|| !cs.all V.one then .fail else .new [.mem [List.replicate cs.length .hole] 0 false] (.ret (.vb (d,0) 0 0 cs)):=rfl
theorem A4K (n:Nat) (id:Id) (st:Nat) (cs:List V):A6u n (.ptr id [] 0 0 1 st) (.agg cs)=if cs.length=n∧cs.all V.one=true then .get id (A6t id n cs)else .fail:=rfl
theorem A7n (n:Nat) (id:Id) (st:Nat) (cs0 cs:List V):A6u n (.vb id 0 st cs0) (.agg cs)=if cs.length=n∧cs.all V.one=true then .get id (A6t id n cs)else .fail:=rfl
theorem A4L (id:Id) (n:Nat) (cs:List V) (row:List T) (stt:Nat) (fx:Bool):A6t id n cs (.mem [row] stt fx)=if row.length=n then .set id (.mem [List.replicate n .hole] (stt+1) fx) (.ret (.vb id 0 (stt+1) cs))else .fail:=rfl
theorem AC2 (c:T):V.one (.t c)=true:=rfl
theorem A7o : V.one .nil=true:=rfl
theorem A7p (id:Id) (n:Nat):V.one (.ref id n)=true:=rfl
theorem A7q (id:Id) (p:Path) (i c n st:Nat):V.one (.sub id p i c n st)=true:=rfl
theorem AAh (n:Nat) (ag:Bool) (cs:List T):ldV n ag (.pp cs)=if n≤cs.length then iJ ag ((cs.take n).map tV)else .fail:=rfl
theorem A7r (n:Nat) (ag:Bool) (id:Id) (p:Path) (i off m st:Nat) (rows:Rows) (stt:Nat) (fx:Bool):ldE n ag id p i off m st (.mem rows stt fx)=CT (Dw rows stt p i m st) fun row=>if off+n≤row.length then iJ ag (Pb id p i off stt ((row.drop off).take n))else .fail:=rfl
theorem A7s (id:Id) (p:Path) (i off m st n:Nat) (ts:List T) (rows:Rows) (stt:Nat) (fx:Bool):stE id p i off m st n ts (.mem rows stt fx)=CT (Dw rows stt p i m st) fun row=>if ts.length=n∧off+n≤row.length then .set id (.mem (K0 rows p i off ts) (stt+1) fx) (.ret .dead)else .fail:=rfl
theorem ye (rows:Rows) (p:Path) (i c:Nat):K0 rows p i c []=rows:=rfl
theorem yf (rows:Rows) (p:Path) (i c:Nat) (t:T) (ts:List T):K0 rows p i c (t::ts)=K0 (Bn rows p i c t) p i (c+1) ts:=rfl
theorem A4M (rows:Rows) (i c:Nat) (t:T):Bn rows [] i c t=ID rows i c t:=rfl
theorem A11 (row:List T) (c:Nat) (t:T):ID [row] 0 c t=[row.set c t]:=rfl
theorem A12 (a:Id) (b:Path) (c d e f:Nat):zt (.ptr a b c d e f)= .ret (.ptr a b c d e f):=rfl
theorem A4N (cs:List T):zt (.pp cs)= .ret (.pp cs):=rfl
theorem A4O (f:FuncId) (caps:List V):zt (.fn f caps)= .ret (.fn f caps):=rfl
theorem A4P (d:Nat) (z:List T) (byt:Nat) (k:IntKind) (n:Int):AAH d z byt (.t (.v (.int k n)))=CT (mkN n byt) fun m=> .new [.mem (List.replicate m z) 0 false] (.ret (.ref (d,0) m)):=rfl
theorem AAi (sz:Nat) (row:List T):iaP sz row=if row.length=sz then .ret (.pp row)else .fail:=rfl
theorem A7t (sz:Nat) (id:Id) (p:Path) (n m st:Nat) (row:List T):iaK sz id p n m st row=if row.length=sz then .ret (.ptr id p n 0 m st)else .fail:=rfl
theorem AAj (sz:Nat) (id:Id) (p:Path) (n:Int) (m st:Nat) (rows:Rows):iaS sz id p n m st rows=if rows.length=m then CT (getI rows n) (iaK sz id p n.toNat m st)else .fail:=rfl
theorem A7u (sz:Nat) (id:Id) (m:Nat) (n:Int) (rows:Rows) (st:Nat) (fx:Bool):iaE sz id m n (.mem rows st fx)=iaS sz id [] n m 0 rows:=rfl
theorem AAk (d:Nat) (md:List Md) (own:List Bool) (args:List V) (f:FuncId) (caps:List V):cvv d md own args (.fn f caps)=Xr d f (md++(caps.map fun _=>Md.ref)) own (args++caps):=rfl
def zw (d:Nat) (own:List Bool) (ps:List PA) (bs:List Ep) (res:BD):M V:=
 if(ps.any PA.reads)&& !res.allOwn then .fail else FC bs res.after
  (let a:=J6 d 0 own res.vals;if a.2.isEmpty then .ret (Ub a.1)else .new a.2 (.ret (Ub a.1)))
def A93 (d:Nat) (f:FuncId) (own:List Bool) (ps:List PA) (bs:List Ep):M V:=
 if !Da (Bf bs)then .fail else Sv ps fun as=> .call f as (zw d own ps bs)
theorem A13 (d:Nat) (f:FuncId) (md:List Md) (own:List Bool) (args:List V):Xr d f md own args=Ja md args (A93 d f own):=rfl
theorem A4Q (d:Nat) (f:FuncId) (own:List Bool) (ps:List PA) (bs:List Ep):A93 d f own ps bs=if !Da (Bf bs)then .fail else Sv ps fun as=> .call f as (zw d own ps bs):=rfl
def AAl (as:List V):List FA→M V
 | []=> .ret (Ub as)
 |e::es=> .new (e::es) (.ret (Ub as))
theorem A4R (d:Nat) (own:List Bool) (ps:List PA) (bs:List Ep) (vals:List RV) (after:List (Option Rows)):zw d own ps bs ⟨vals,after⟩=
  if(ps.any PA.reads)&& !(BD.mk vals after).allOwn then .fail else FC bs after (AAl (J6 d 0 own vals).1 (J6 d 0 own vals).2):=by
 simp only[zw]
 congr 2
 generalize J6 d 0 own vals=a
 obtain⟨a,b⟩:=a
 cases b<;>rfl
theorem A4S (as:List V):AAl as []= .ret (Ub as):=rfl
theorem A14 (as:List V) (e:FA) (es:List FA):AAl as (e::es)= .new (e::es) (.ret (Ub as)):=rfl
theorem A15 (v:V):Ub [v]=v:=rfl
theorem A16 (v w:V) (vs:List V):Ub (v::w::vs)= .tup (v::w::vs):=rfl
theorem A17 : Ub []= .tup []:=rfl
theorem AAm (d:Nat) (own:Bool) (k:Nat) (x:Value):Vh d own k (.v x)=(.t (.v x),[]):=rfl
theorem AAn (d k:Nat) (o:Bool) (rows:Rows):Vh d false k (.sl o rows)=(.t (.sl false (Az rows)),[]):=rfl
theorem AAo (d k:Nat) (rows:Rows):Vh d true k (.sl true rows)=(.ref (d,k) rows.length,[.mem rows 0 false]):=rfl
theorem AAp (d k:Nat) (rows:Rows):Vh d true k (.sl false rows)=(.t (.sl false (Az rows)),[]):=rfl
theorem A4T (d:Nat) (own:Bool) (k:Nat):jo d own k []=([],[]):=rfl
theorem A18 (d:Nat) (own:Bool) (k:Nat) (t:T) (ts:List T):jo d own k (t::ts)=((Vh d own k t).1::(jo d own (k+(Vh d own k t).2.length) ts).1,(Vh d own k t).2++(jo d own (k+(Vh d own k t).2.length) ts).2):=rfl
theorem A7v (d:Nat) (own:Bool) (k:Nat) (c:T):RG d own k (.t c)=Vh d own k c:=rfl
theorem A19 (d:Nat) (own:Bool) (k:Nat) (cs:List T):RG d own k (.agg cs)=(.agg (jo d own k cs).1,(jo d own k cs).2):=rfl
theorem A1A (d:Nat) (own:Bool) (k:Nat) (cells:List T):RG d own k (.box cells)=(.ptr (d,k) [] 0 0 1 0,[.mem [cells] 0 false]):=rfl
theorem yg (d k:Nat) (own:List Bool):J6 d k own []=([],[]):=by cases own<;>rfl
theorem vU (d k:Nat) (o:Bool) (own:List Bool) (v:RV) (vs:List RV):J6 d k (o::own) (v::vs)=((RG d o k v).1::(J6 d (k+(RG d o k v).2.length) own vs).1,(RG d o k v).2++(J6 d (k+(RG d o k v).2.length) own vs).2):=rfl
theorem A4U (d k:Nat) (v:RV) (vs:List RV):J6 d k [] (v::vs)=((RG d false k v).1::(J6 d (k+(RG d false k v).2.length) [] vs).1,(RG d false k v).2++(J6 d (k+(RG d false k v).2.length) [] vs).2):=rfl
theorem Gs {α:Type} (f g:α→List T) (h:∀x,HF (f x)=g x) (l:List α):Az (l.map f)=l.map g:=by
 induction l with
 |nil=>rfl
 |cons a l ih=>simp only[List.map_cons,Az,h,ih]
theorem Mn (l:List Int):Az (l.map rI)=l.map rI:=Gs _ _ (fun _=>rfl) l
theorem Nl (k:IntKind) (l:List Int):Az (l.map (rK k))=l.map (rK k):=Gs _ _ (fun _=>rfl) l
theorem Nm (l:List ByteArray):Az (l.map rS)=l.map rS:=Gs _ _ (fun _=>rfl) l
theorem Nn (l:List Bool):Az (l.map rB)=l.map rB:=Gs _ _ (fun _=>rfl) l
theorem K1 (o:Bool) (l:List (List Int)):Az (l.map (rL o rI))=l.map (rL false rI):=Gs _ _ (fun x=>by simp only[rL,HF,frz,Mn]) l
theorem Gu {α:Type} (f:α→List T) (h:∀x,De (f x)=true) (l:List α):Bc (l.map f)=true:=by
 induction l with
 |nil=>rfl
 |cons a l ih=>simp only[List.map_cons,Bc,h,ih,Bool.and_self]
theorem Mo (l:List Int):Bc (l.map rI)=true:=Gu _ (fun _=>rfl) l
theorem No (k:IntKind) (l:List Int):Bc (l.map (rK k))=true:=Gu _ (fun _=>rfl) l
theorem Np (l:List ByteArray):Bc (l.map rS)=true:=Gu _ (fun _=>rfl) l
theorem Nq (l:List Bool):Bc (l.map rB)=true:=Gu _ (fun _=>rfl) l
theorem K3 (l:List (List Int)):Bc (l.map (rL true rI))=true:=Gu _ (fun x=>by simp only[rL,De,allOwn,Mo,Bool.and_self]) l
theorem AAq (vals:List RV) (after:List (Option Rows)):(BD.mk vals after).allOwn=(vals.all RV.allOwn&&after.all fun o=>match o with|some rows=>Bc rows|none=>true):=rfl
theorem Er {α:Type} (f:α→List T) (sz:Nat) (h:∀x,(f x).length=sz) (l:List α):((l.map f).all fun r=>r.length==sz)=true:=by
 simp[List.all_map,h]
theorem AAr (l:List Int):((l.map rI).all fun r=>r.length==1)=true:=Er _ _ (fun x=>by rfl) l
theorem AAs (k:IntKind) (l:List Int):((l.map (rK k)).all fun r=>r.length==1)=true:=Er _ _ (fun x=>by rfl) l
theorem AAt (l:List ByteArray):((l.map rS).all fun r=>r.length==1)=true:=Er _ _ (fun x=>by rfl) l
theorem AAu (l:List Bool):((l.map rB).all fun r=>r.length==1)=true:=Er _ _ (fun x=>by rfl) l
theorem AAv {α:Type} (o:Bool) (f:α→List T) (l:List (List α)):((l.map (rL o f)).all fun r=>r.length==1)=true:=Er _ _ (fun x=>by rfl) l
theorem AC3 (ts:List Nat) (c:T):V.mentions ts (.t c)=false:=by simp only[V.mentions]
theorem A7w (ts:List Nat):V.mentions ts .nil=false:=by simp only[V.mentions]
theorem A4V (ts:List Nat):V.mentions ts .dead=false:=by simp only[V.mentions]
theorem AAw (ts:List Nat) (c:List T):V.mentions ts (.pp c)=false:=by simp only[V.mentions]
theorem AAx {α:Type} (c:T) (k:RV→M α):jr (.t c) k=k (.t c):=rfl
theorem A4W {α:Type} (k:RV→M α):jr .nil k=k (.t (.sl true [])):=rfl
theorem A4X {α:Type} (id:Id) (n:Nat) (k:RV→M α):jr (.ref id n) k=take (.ref id n) fun t=>k (.t t):=rfl
theorem AAy {α:Type} (c:T) (k:T→M α):tw (.t c) k=k c:=rfl
theorem A4Y {α:Type} (id:Id) (n:Nat) (k:T→M α):tw (.ref id n) k=take (.ref id n) k:=rfl
theorem AAz (c:T):V.isDead (.t c)=false:=rfl
theorem A4Z : V.isDead .nil=false:=rfl
theorem A4a (cs:List V):V.isDead (.agg cs)=false:=rfl
theorem A4b (id:Id) (n:Nat):V.isDead (.ref id n)=false:=rfl
theorem A4c (id:Id) (p:Path) (i c n st:Nat):V.isDead (.sub id p i c n st)=false:=rfl
theorem A4d (id:Id) (p:Path) (i off n st:Nat):V.isDead (.ptr id p i off n st)=false:=rfl
theorem A7x (cs:List T):V.isDead (.pp cs)=false:=rfl
theorem A7y (f:FuncId) (caps:List V):V.isDead (.fn f caps)=false:=rfl
theorem A7z (k:IntKind) (a b:Int):eqK .int (.t (.v (.int k a))) (.t (.v (.int k b)))=some (Ag a b):=by simp[eqK,Ag]
theorem A80 (a b:ByteArray):eqK .str (.t (.v (.string a))) (.t (.v (.string b)))=some (C6 a b):=rfl
theorem A4e (a b:Bool):eqK .bool (.t (.v (.bool a))) (.t (.v (.bool b)))=some (eqB a b):=rfl
theorem yh (n:Int) (rs:Rows):DR ([.v (.int .u8 n)]::rs)=(DR rs).map fun l=>UInt8.ofNat n.toNat::l:=by simp[DR]
end TT
