import Derived.Test.YtpmnlfgdicmiiaaGreatDoorTH2
set_option linter.unusedVariables false
set_option linter.unusedSimpArgs false
set_option linter.defProp false
namespace TT
open Go
theorem A6G (FT:Env) (d:Nat) (o:O) (rd wr:List Nat) (s:List V) (r:R):opR FT false d o rd wr s r=(Aj s d o).run (dn FT) d r:=rfl
theorem A6H (FT:Env) (d:Nat) (o:O) (rd wr:List Nat) (s:List V) (r:R):opR FT true d o rd wr s r=(Aj s d o).runA (dn FT) d rd wr r:=rfl
theorem xu {α β:Type} (f:α→β) (l:List α):AD (l.map f)=AD l:=by simp[AD]
theorem A1y {α:Type} (l:List α):((List.length l:Nat):Int)=AD l:=rfl
theorem cy {α β:Type} (f:α→β) (l:List α) (i:Int):getI (l.map f) i=(getI l i).map f:=by
 simp only[getI,List.getElem?_map];split<;>rfl
theorem A1z {α β:Type} (f:α→β) (l:List α) (i j:Int):slL (l.map f) i j=(slL l i j).map (List.map f):=by
 simp only[slL,List.length_map];split<;>simp[List.map_take,List.map_drop]
theorem Vf {α β:Type} (a:α) (k:α→M β):Bg (some a) k=k a:=rfl
theorem tj {α β:Type} (k:α→M β):Bg none k= .fail:=rfl
theorem xv {α β γ:Type} (f:α→β) (o:Option α) (k:β→M γ):Bg (o.map f) k=Bg o fun a=>k (f a):=by cases o<;>rfl
theorem A6I (nt:Nat) (args:List Km):(enter nt args).s=(Oj 0 args).map (·.1)++List.replicate (nt-args.length) .dead:=rfl
theorem A6J (nt:Nat) (args:List Km):(enter nt args).r=(Oj 0 args).map (·.2)++List.replicate (nt-args.length) []:=rfl
theorem qa (rows:Rows) (stt i n st:Nat):D3 rows stt [] i n st=if rows.length=n then rows[i]? else none:=rfl
theorem tk {α:Type} (a:α) (l:List α) (d:α):(a::l).getD 0 d=a:=rfl
theorem tl {α:Type} (a:α) (l:List α) (i:Nat) (d:α):(a::l).getD (i+1) d=l.getD i d:=rfl
theorem xw {α:Type} (i:Nat) (d:α):([]:List α).getD i d=d:=rfl
theorem tn {α:Type} (a:α) (l:List α):(a::l)[0]? =some a:=rfl
theorem tq {α:Type} (a:α) (l:List α) (i:Nat):(a::l)[i+1]? =l[i]? :=rfl
theorem xx {α:Type} (a b:α) (l:List α):(a::l).set 0 b=b::l:=rfl
theorem xy {α:Type} (a b:α) (l:List α) (i:Nat):(a::l).set (i+1) b=a::l.set i b:=rfl
theorem xz (a b c d:Nat):(((a,b):Nat×Nat)==(c,d))=(a==c&&b==d):=rfl
theorem A20 (s:List V) (t:Nat):A4 s (.s t)=s.getD t .dead:=rfl
theorem A21 (s:List V) (x:Value):A4 s (.c x)=RZ x:=rfl
theorem A22 (s:List V) (f:FuncId):A4 s (.f f)= .fn f []:=rfl
theorem A23 (s:List V) (cs:List T):A4 s (.z cs)= .agg (cs.map zV):=rfl
theorem qb (k:IntKind) (n:Int):RZ (.int k n)= .t (.v (.int k n)):=rfl
theorem nk (b:Bool):RZ (.bool b)= .t (.v (.bool b)):=rfl
theorem qc (q:Option Addr):RZ (.pointer q)= .t (.v (.pointer q)):=rfl
theorem qd (x:ByteArray):RZ (.string x)= .t (.v (.string x)):=rfl
theorem nl : RZ .nilIface= .t (.v .nilIface):=rfl
theorem qe : RZ (.slice none 0 0)= .nil:=rfl
theorem A24 (id:Id) (p:Path) (i c st:Nat) (x:Value):JV id p i c st (.v x)= .t (.v x):=rfl
theorem tr (id:Id) (p:Path) (i c st:Nat) (rows:Rows):JV id p i c st (.sl true rows)= .sub id p i c rows.length st:=rfl
theorem y8 (id:Id) (p:Path) (i c st:Nat) (rows:Rows):JV id p i c st (.sl false rows)= .t (.sl false rows):=rfl
theorem qf (id:Id) (p:Path) (i c st:Nat):JV id p i c st .hole= .dead:=rfl
theorem y9 (id:Id) (p:Path) (i c st:Nat) (cs:List T):JV id p i c st (.pp cs)= .pp cs:=rfl
theorem yA (id:Id) (p:Path) (i c st:Nat) (f:FuncId) (cs:List (List T)):JV id p i c st (.fn f cs)= .fn f (cs.map V.pp):=rfl
theorem A6r (x:Value):tV (.v x)= .t (.v x):=rfl
theorem A6K (o:Bool) (rows:Rows):tV (.sl o rows)= .t (.sl o rows):=rfl
theorem A6L (cs:List T):tV (.pp cs)= .pp cs:=rfl
theorem A6M (f:FuncId) (cs:List (List T)):tV (.fn f cs)= .fn f (cs.map V.pp):=rfl
theorem qg (id:Id) (p:Path) (i c st:Nat):Mq id p i c st []=[]:=rfl
theorem no (id:Id) (p:Path) (i c st:Nat) (t:T) (ts:List T):Mq id p i c st (t::ts)=JV id p i c st t::Mq id p i (c+1) st ts:=rfl
theorem np (cs:List V):cellsOf (.agg cs)=cs:=rfl
theorem tt (c:T):cellsOf (.t c)=[.t c]:=rfl
theorem qh (cs:List T):cellsOf (.pp cs)=[.pp cs]:=rfl
theorem qi (f:FuncId) (cs:List V):cellsOf (.fn f cs)=[.fn f cs]:=rfl
theorem nq : cellsOf .nil=[.nil]:=rfl
theorem ns (id:Id) (n:Nat):cellsOf (.ref id n)=[.ref id n]:=rfl
theorem nu (id:Id) (p:Path) (i c n st:Nat):cellsOf (.sub id p i c n st)=[.sub id p i c n st]:=rfl
section
variable {α:Type}
theorem A4v (c:T) (k:T→M α):take (.t c) k=k c:=rfl
theorem A25 (cs:List T) (k:T→M α):take (.pp cs) k=k (.pp cs):=rfl
theorem yB (f:FuncId) (k:T→M α):take (.fn f []) k=k (.fn f []):=rfl
theorem yC (f:FuncId) (a:List T) (k:T→M α):take (.fn f [.pp a]) k=k (.fn f [a]):=rfl
theorem yD (f:FuncId) (a b:List T) (k:T→M α):take (.fn f [.pp a, .pp b]) k=k (.fn f [a,b]):=rfl
theorem yE (f:FuncId) (a b c:List T) (k:T→M α):take (.fn f [.pp a, .pp b, .pp c]) k=k (.fn f [a,b,c]):=rfl
theorem take_nil (k:T→M α):take .nil k=k (.sl true []):=rfl
def A3L (id:Id) (n:Nat) (k:T→M α):E2→M α
 | .mem rows _ fx=>if rows.length=n then .set id .dead (k (.sl true rows))else .fail
 | .dead=> .fail
theorem yF (id:Id) (n:Nat) (k:T→M α):take (.ref id n) k= .get id (A3L id n k):=by
 simp only[take];congr 1;funext e;cases e<;>rfl
theorem tu (id:Id) (n:Nat) (k:T→M α) (rows:Rows) (st:Nat) (fx:Bool):A3L id n k (.mem rows st fx)=if rows.length=n then .set id .dead (k (.sl true rows))else .fail:=rfl
def yG (id:Id) (p:Path) (i c n st:Nat) (k:T→M α):E2→M α
 | .mem rows stt fx=>if st=stt then(match Be rows p i c with
     |some (.sl true rs)=>if rs.length=n then .set id (.mem (B6 rows p i c .hole) stt fx) (k (.sl true rs))else .fail
     |_=> .fail)else .fail
 | .dead=> .fail
theorem yH (id:Id) (p:Path) (i c n st:Nat) (k:T→M α):take (.sub id p i c n st) k= .get id (yG id p i c n st k):=by
 simp only[take];congr 1;funext e;cases e<;>rfl
theorem qj (id:Id) (p:Path) (i c n st:Nat) (k:T→M α) (rows:Rows) (stt:Nat) (fx:Bool):yG id p i c n st k (.mem rows stt fx)=if st=stt then(match Be rows p i c with
     |some (.sl true rs)=>if rs.length=n then .set id (.mem (B6 rows p i c .hole) stt fx) (k (.sl true rs))else .fail
     |_=> .fail)else .fail:=rfl
theorem tw (k:List T→M α):EC [] k=k []:=rfl
theorem qk (v:V) (vs:List V) (k:List T→M α):EC (v::vs) k=take v fun t=>EC vs fun ts=>k (t::ts):=rfl
theorem kJ (k:Rows→M α):D7 [] k=k []:=rfl
theorem fy (vs:List V) (vss:List (List V)) (k:Rows→M α):D7 (vs::vss) k=EC vs fun r=>D7 vss fun rs=>k (r::rs):=rfl
theorem yI (o:Bool) (rows:Rows) (k:Rows→M α):FA (.t (.sl o rows)) k=k rows:=rfl
theorem ql (k:Rows→M α):FA .nil k=k []:=rfl
def A3M (n:Nat) (k:Rows→M α):E2→M α
 | .mem rows _ _=>if rows.length=n then k rows else .fail
 | .dead=> .fail
theorem qm (id:Id) (n:Nat) (k:Rows→M α):FA (.ref id n) k= .get id (A3M n k):=by
 simp only[FA];congr 1;funext e;cases e<;>rfl
theorem tx (n:Nat) (k:Rows→M α) (rows:Rows) (st:Nat) (fx:Bool):A3M n k (.mem rows st fx)=if rows.length=n then k rows else .fail:=rfl
def yJ (p:Path) (i c n st:Nat) (k:Rows→M α):E2→M α
 | .mem rows stt _=>if st=stt then(match Be rows p i c with
     |some (.sl true rs)=>if rs.length=n then k rs else .fail
     |_=> .fail)else .fail
 | .dead=> .fail
theorem qn (id:Id) (p:Path) (i c n st:Nat) (k:Rows→M α):FA (.sub id p i c n st) k= .get id (yJ p i c n st k):=by
 simp only[FA];congr 1;funext e;cases e<;>rfl
theorem qo (p:Path) (i c n st:Nat) (k:Rows→M α) (rows:Rows) (stt:Nat) (fx:Bool):yJ p i c n st k (.mem rows stt fx)=if st=stt then(match Be rows p i c with
     |some (.sl true rs)=>if rs.length=n then k rs else .fail
     |_=> .fail)else .fail:=rfl
theorem yK (o:Bool) (rows:Rows) (k:Rows→M α):Gk (.t (.sl o rows)) k=k rows:=rfl
def kK (k:Rows→M α):T→M α
 | .sl true rows=>k rows
 |_=> .fail
theorem yL (q:Option Addr) (c:Nat) (k:Rows→M α):Gk (.t (.v (.slice q 0 c))) k=k []:=rfl
theorem qp (k:Rows→M α):Gk .nil k=k []:=rfl
theorem qr (id:Id) (n:Nat) (k:Rows→M α):Gk (.ref id n) k=take (.ref id n) (kK k):=by
 rfl
theorem qt (id:Id) (p:Path) (i c n st:Nat) (k:Rows→M α):Gk (.sub id p i c n st) k=take (.sub id p i c n st) (kK k):=by
 rfl
theorem qu (rows:Rows) (k:Rows→M α):kK k (.sl true rows)=k rows:=rfl
theorem A4w (md:Md) (c:T) (k:PA→List Dr→M α):E3 md (.t c) k=k (.a (.t c)) []:=by simp only[E3]
theorem kL (k:PA→List Dr→M α):E3 .val .nil k=k (.a (.t (.sl false []))) []:=by simp only[E3]
theorem gA (k:PA→List Dr→M α):E3 .give .nil k=k (.a (.t (.sl false []))) []:=by simp only[E3]
theorem kM (k:PA→List Dr→M α):E3 .ref .nil k=k (.a (.ln [])) [.none]:=by simp only[E3]
theorem kN (cs:List V) (k:PA→List Dr→M α):E3 .val (.agg cs) k=k (.v (.agg cs)) []:=by simp only[E3]
theorem kO (cs:List V) (k:PA→List Dr→M α):E3 .ref (.agg cs) k=QR .ref cs fun as bs=>k (.a (.agg (as.map PA.arg))) bs:=by simp only[E3]
theorem gB (cs:List V) (k:PA→List Dr→M α):E3 .give (.agg cs) k=QR .give cs fun as bs=>k (.a (.agg (as.map PA.arg))) bs:=by simp only[E3]
theorem kP (id:Id) (n:Nat) (k:PA→List Dr→M α):E3 .val (.ref id n) k=k (.v (.ref id n)) []:=by simp only[E3]
theorem kQ (id:Id) (p:Path) (i c n st:Nat) (k:PA→List Dr→M α):E3 .val (.sub id p i c n st) k=k (.v (.sub id p i c n st)) []:=by simp only[E3]
def A3N (id:Id) (n:Nat) (k:PA→List Dr→M α):E2→M α
 | .mem rows st fx=>if rows.length=n then .set id .dead (k (.a (.ln rows)) [.root id st fx rows])else .fail
 | .dead=> .fail
theorem kR (id:Id) (n:Nat) (k:PA→List Dr→M α):E3 .ref (.ref id n) k= .get id (A3N id n k):=by
 simp only[E3];congr 1;funext e;cases e<;>rfl
theorem tz (id:Id) (n:Nat) (k:PA→List Dr→M α) (rows:Rows) (st:Nat) (fx:Bool):A3N id n k (.mem rows st fx)=if rows.length=n then .set id .dead (k (.a (.ln rows)) [.root id st fx rows])else .fail:=rfl
def A3O (id:Id) (n:Nat) (k:PA→List Dr→M α):E2→M α
 | .mem rows st fx=>if rows.length=n then .set id .dead (k (.a (.t (.sl false (AZ rows)))) [])else .fail
 | .dead=> .fail
theorem gC (id:Id) (n:Nat) (k:PA→List Dr→M α):E3 .give (.ref id n) k= .get id (A3O id n k):=by
 simp only[E3];congr 1;funext e;cases e<;>rfl
theorem u9 (id:Id) (n:Nat) (k:PA→List Dr→M α) (rows:Rows) (st:Nat) (fx:Bool):A3O id n k (.mem rows st fx)=if rows.length=n then .set id .dead (k (.a (.t (.sl false (AZ rows)))) [])else .fail:=rfl
def yM (id:Id) (p:Path) (i c n st:Nat) (k:PA→List Dr→M α):E2→M α
 | .mem rows stt fx=>if st=stt then(match Be rows p i c with
     |some (.sl true rs)=>if rs.length=n then .set id (.mem (B6 rows p i c .hole) (stt+1) fx) (k (.a (.ln rs)) [.cell id p i c])else .fail
     |_=> .fail)else .fail
 | .dead=> .fail
theorem kS (id:Id) (p:Path) (i c n st:Nat) (k:PA→List Dr→M α):E3 .ref (.sub id p i c n st) k= .get id (yM id p i c n st k):=by
 simp only[E3];congr 1;funext e;cases e<;>rfl
theorem qv (id:Id) (p:Path) (i c n st:Nat) (k:PA→List Dr→M α) (rows:Rows) (stt:Nat) (fx:Bool):yM id p i c n st k (.mem rows stt fx)=if st=stt then(match Be rows p i c with
     |some (.sl true rs)=>if rs.length=n then .set id (.mem (B6 rows p i c .hole) (stt+1) fx) (k (.a (.ln rs)) [.cell id p i c])else .fail
     |_=> .fail)else .fail:=rfl
def yN (id:Id) (off:Nat) (k:PA→List Dr→M α):E2→M α
 | .mem [cells] stt fx=>if off<cells.length then .set id .dead (k (.a (.lp cells off)) [.root id stt fx [cells]])else .fail
 |_=> .fail
theorem yO (md:Md) (id:Id) (off st:Nat) (k:PA→List Dr→M α):E3 md (.ptr id [] 0 off 1 st) k= .get id (yN id off k):=by
 simp only[E3,List.isEmpty_nil,decide_true,Bool.and_self,if_true];rfl
theorem qw (id:Id) (off:Nat) (k:PA→List Dr→M α) (cells:List T) (stt:Nat) (fx:Bool):yN id off k (.mem [cells] stt fx)=if off<cells.length then .set id .dead (k (.a (.lp cells off)) [.root id stt fx [cells]])else .fail:=rfl
theorem A26 (md:Md) (cs:List T) (k:PA→List Dr→M α):E3 md (.pp cs) k=k (.a (.pp cs)) []:=by simp only[E3]
theorem A27 (md:Md) (f:FuncId) (caps:List V) (k:PA→List Dr→M α):E3 md (.fn f caps) k=QR .ref caps fun as bs=>k (.a (.fn f (as.map PA.arg))) bs:=by simp only[E3]
theorem uA (md:Md) (k:List PA→List Dr→M α):QR md [] k=k [] []:=by simp only[QR]
theorem qx (md:Md) (v:V) (vs:List V) (k:List PA→List Dr→M α):QR md (v::vs) k=E3 md v fun a b=>QR md vs fun as bs=>k (a::as) (b++bs):=by simp only[QR]
theorem kT (mds:List Md) (k:List PA→List Dr→M α):Hl mds [] k=k [] []:=by simp only[Hl]
theorem qy (v:V) (vs:List V) (k:List PA→List Dr→M α):Hl [] (v::vs) k=E3 .val v fun a b=>Hl [] vs fun as bs=>k (a::as) (b++bs):=rfl
theorem qz (md:Md) (mds:List Md) (v:V) (vs:List V) (k:List PA→List Dr→M α):Hl (md::mds) (v::vs) k=E3 md v fun a b=>Hl mds vs fun as bs=>k (a::as) (b++bs):=rfl
def cz (k:T→M α) (rows:Rows):M α:=k (.sl false (AZ rows))
theorem nv (k:T→M α) (rows:Rows):cz k rows=k (.sl false (AZ rows)):=rfl
theorem uB (c:T) (k:T→M α):GX (.t c) k=k c:=rfl
theorem nw (k:T→M α):GX .nil k=k (.sl false []):=rfl
theorem nx (id:Id) (n:Nat) (k:T→M α):GX (.ref id n) k=FA (.ref id n) (cz k):=rfl
theorem ny (id:Id) (p:Path) (i c n st:Nat) (k:T→M α):GX (.sub id p i c n st) k=FA (.sub id p i c n st) (cz k):=rfl
theorem kU (k:List T→M α):OI [] k=k []:=rfl
theorem gD (v:V) (vs:List V) (k:List T→M α):OI (v::vs) k=GX v fun t=>OI vs fun ts=>k (t::ts):=rfl
theorem yP (x:Km) (k:Km→M α):T6 (.a x) k=k x:=rfl
theorem rA (cs:List V) (k:Km→M α):T6 (.v (.agg cs)) k=OI cs fun ts=>k (.agg (ts.map Km.t)):=rfl
theorem rC (id:Id) (n:Nat) (k:Km→M α):T6 (.v (.ref id n)) k=GX (.ref id n) fun t=>k (.t t):=rfl
theorem rD (id:Id) (p:Path) (i c n st:Nat) (k:Km→M α):T6 (.v (.sub id p i c n st)) k=GX (.sub id p i c n st) fun t=>k (.t t):=rfl
theorem o6 (k:List Km→M α):Ph [] k=k []:=rfl
theorem kV (p:PA) (ps:List PA) (k:List Km→M α):Ph (p::ps) k=T6 p fun a=>Ph ps fun as=>k (a::as):=rfl
theorem o7 (m:M α):E4 [] [] m=m:=rfl
def pbE (id:Id) (st:Nat) (fx:Bool) (rows0:Rows) (o:Option Rows) (m:M α):E2→M α
 | .dead=>(match o with
    |some rows=>if rows.map (·.length)=rows0.map (·.length)then .set id (.mem rows (st+1) fx) m else .fail
    |none=>m)
 |_=> .fail
theorem kW (id:Id) (st:Nat) (fx:Bool) (rows0:Rows) (bs:List Dr) (o:Option Rows) (os:List (Option Rows)) (m:M α):E4 (.root id st fx rows0::bs) (o::os) m= .get id (pbE id st fx rows0 o (E4 bs os m)):=by
 rfl
theorem yQ (id:Id) (st:Nat) (fx:Bool) (rows0 rows:Rows) (m:M α):pbE id st fx rows0 (some rows) m .dead=if rows.map (·.length)=rows0.map (·.length)then .set id (.mem rows (st+1) fx) m else .fail:=rfl
theorem yR (id:Id) (st:Nat) (fx:Bool) (rows0:Rows) (m:M α):pbE id st fx rows0 none m .dead=m:=rfl
def pbC (id:Id) (p:Path) (i c:Nat) (o:Option Rows) (m:M α):E2→M α
 | .mem rows stt fx=>(match o with
    |some rs=> .set id (.mem (B6 rows p i c (.sl true rs)) (stt+1) fx) m
    |none=>m)
 |_=> .fail
theorem kX (id:Id) (p:Path) (i c:Nat) (bs:List Dr) (o:Option Rows) (os:List (Option Rows)) (m:M α):E4 (.cell id p i c::bs) (o::os) m= .get id (pbC id p i c o (E4 bs os m)):=by
 rfl
theorem yS (id:Id) (p:Path) (i c:Nat) (rs rows:Rows) (stt:Nat) (fx:Bool) (m:M α):pbC id p i c (some rs) m (.mem rows stt fx)= .set id (.mem (B6 rows p i c (.sl true rs)) (stt+1) fx) m:=rfl
theorem kY (bs:List Dr) (o:Option Rows) (os:List (Option Rows)) (m:M α):E4 (.none::bs) (o::os) m=E4 bs os m:=rfl
end
theorem A28 (n:Nat) (ag:Bool) (id:Id) (p:Path) (i off m st:Nat):ldV n ag (.ptr id p i off m st)= .get id (ldE n ag id p i off m st):=rfl
theorem A4x (n:Nat) (ag:Bool) (id:Id) (off st:Nat) (cs:List V):ldV n ag (.vb id off st cs)= .get id (ldX n ag off st cs):=rfl
theorem A29 (n:Nat) (ag:Bool) (off st:Nat) (cs:List V) (rows:Rows) (stt:Nat) (fx:Bool):ldX n ag off st cs (.mem rows stt fx)=if(st=stt∧rows.length=1)∧off+n≤cs.length then ak ag ((cs.drop off).take n)else .fail:=rfl
theorem A4y (off:Nat) (id:Id) (o st:Nat) (cs:List V):faV off (.vb id o st cs)= .ret (.vb id (o+off) st cs):=rfl
theorem yT (d:Nat) (cs:List V):A67 d (.agg cs)=if cs.isEmpty|| !cs.all V.one then .fail else .new [.mem [List.replicate cs.length .hole] 0 false] (.ret (.vb (d,0) 0 0 cs)):=rfl
theorem yU (n:Nat) (id:Id) (st:Nat) (cs:List V):A1H n (.ptr id [] 0 0 1 st) (.agg cs)=if cs.length=n∧cs.all V.one=true then .get id (A1G id n cs)else .fail:=rfl
theorem A2A (n:Nat) (id:Id) (st:Nat) (cs0 cs:List V):A1H n (.vb id 0 st cs0) (.agg cs)=if cs.length=n∧cs.all V.one=true then .get id (A1G id n cs)else .fail:=rfl
theorem yV (id:Id) (n:Nat) (cs:List V) (row:List T) (stt:Nat) (fx:Bool):A1G id n cs (.mem [row] stt fx)=if row.length=n then .set id (.mem [List.replicate n .hole] (stt+1) fx) (.ret (.vb id 0 (stt+1) cs))else .fail:=rfl
theorem A6N (c:T):V.one (.t c)=true:=rfl
theorem A2B : V.one .nil=true:=rfl
theorem A2C (id:Id) (n:Nat):V.one (.ref id n)=true:=rfl
theorem A2D (id:Id) (p:Path) (i c n st:Nat):V.one (.sub id p i c n st)=true:=rfl
theorem A4z (n:Nat) (ag:Bool) (cs:List T):ldV n ag (.pp cs)=if n≤cs.length then ak ag ((cs.take n).map tV)else .fail:=rfl
theorem A2E (n:Nat) (ag:Bool) (id:Id) (p:Path) (i off m st:Nat) (rows:Rows) (stt:Nat) (fx:Bool):ldE n ag id p i off m st (.mem rows stt fx)=Bg (D3 rows stt p i m st) fun row=>if off+n≤row.length then ak ag (Mq id p i off stt ((row.drop off).take n))else .fail:=rfl
theorem A2F (id:Id) (p:Path) (i off m st n:Nat) (ts:List T) (rows:Rows) (stt:Nat) (fx:Bool):stE id p i off m st n ts (.mem rows stt fx)=Bg (D3 rows stt p i m st) fun row=>if ts.length=n∧off+n≤row.length then .set id (.mem (IB rows p i off ts) (stt+1) fx) (.ret .dead)else .fail:=rfl
theorem rE (rows:Rows) (p:Path) (i c:Nat):IB rows p i c []=rows:=rfl
theorem rF (rows:Rows) (p:Path) (i c:Nat) (t:T) (ts:List T):IB rows p i c (t::ts)=IB (B6 rows p i c t) p i (c+1) ts:=rfl
theorem yW (rows:Rows) (i c:Nat) (t:T):B6 rows [] i c t=GV rows i c t:=rfl
theorem uC (row:List T) (c:Nat) (t:T):GV [row] 0 c t=[row.set c t]:=rfl
theorem uD (a:Id) (b:Path) (c d e f:Nat):sS (.ptr a b c d e f)= .ret (.ptr a b c d e f):=rfl
theorem yX (cs:List T):sS (.pp cs)= .ret (.pp cs):=rfl
theorem yY (f:FuncId) (caps:List V):sS (.fn f caps)= .ret (.fn f caps):=rfl
theorem yZ (d:Nat) (z:List T) (byt:Nat) (k:IntKind) (n:Int):A4Z d z byt (.t (.v (.int k n)))=Bg (mkN n byt) fun m=> .new [.mem (List.replicate m z) 0 false] (.ret (.ref (d,0) m)):=rfl
theorem A50 (sz:Nat) (row:List T):iaP sz row=if row.length=sz then .ret (.pp row)else .fail:=rfl
theorem A2G (sz:Nat) (id:Id) (p:Path) (n m st:Nat) (row:List T):iaK sz id p n m st row=if row.length=sz then .ret (.ptr id p n 0 m st)else .fail:=rfl
theorem A51 (sz:Nat) (id:Id) (p:Path) (n:Int) (m st:Nat) (rows:Rows):iaS sz id p n m st rows=if rows.length=m then Bg (getI rows n) (iaK sz id p n.toNat m st)else .fail:=rfl
theorem A2H (sz:Nat) (id:Id) (m:Nat) (n:Int) (rows:Rows) (st:Nat) (fx:Bool):iaE sz id m n (.mem rows st fx)=iaS sz id [] n m 0 rows:=rfl
theorem A52 (d:Nat) (md:List Md) (own:List Bool) (args:List V) (f:FuncId) (caps:List V):cvv d md own args (.fn f caps)=UJ d f (md++(caps.map fun _=>Md.ref)) own (args++caps):=rfl
def sV (d:Nat) (own:List Bool) (ps:List PA) (bs:List Dr) (res:Ap):M V:=
 if(ps.any PA.reads)&& !res.allOwn then .fail else E4 bs res.after
  (let a:=HL d 0 own res.vals;if a.2.isEmpty then .ret (RE a.1)else .new a.2 (.ret (RE a.1)))
def A3P (d:Nat) (f:FuncId) (own:List Bool) (ps:List PA) (bs:List Dr):M V:=
 if !Cc (Ay bs)then .fail else Ph ps fun as=> .call f as (sV d own ps bs)
theorem uE (d:Nat) (f:FuncId) (md:List Md) (own:List Bool) (args:List V):UJ d f md own args=Hl md args (A3P d f own):=rfl
theorem ya (d:Nat) (f:FuncId) (own:List Bool) (ps:List PA) (bs:List Dr):A3P d f own ps bs=if !Cc (Ay bs)then .fail else Ph ps fun as=> .call f as (sV d own ps bs):=rfl
def A53 (as:List V):List E2→M V
 | []=> .ret (RE as)
 |e::es=> .new (e::es) (.ret (RE as))
theorem yb (d:Nat) (own:List Bool) (ps:List PA) (bs:List Dr) (vals:List RV) (after:List (Option Rows)):sV d own ps bs ⟨vals,after⟩=
  if(ps.any PA.reads)&& !(Ap.mk vals after).allOwn then .fail else E4 bs after (A53 (HL d 0 own vals).1 (HL d 0 own vals).2):=by
 simp only[sV]
 congr 2
 generalize HL d 0 own vals=a
 obtain⟨a,b⟩:=a
 cases b<;>rfl
theorem yc (as:List V):A53 as []= .ret (RE as):=rfl
theorem uF (as:List V) (e:E2) (es:List E2):A53 as (e::es)= .new (e::es) (.ret (RE as)):=rfl
theorem uG (v:V):RE [v]=v:=rfl
theorem uH (v w:V) (vs:List V):RE (v::w::vs)= .tup (v::w::vs):=rfl
theorem uI : RE []= .tup []:=rfl
theorem A54 (d:Nat) (own:Bool) (k:Nat) (x:Value):SJ d own k (.v x)=(.t (.v x),[]):=rfl
theorem A55 (d k:Nat) (o:Bool) (rows:Rows):SJ d false k (.sl o rows)=(.t (.sl false (AZ rows)),[]):=rfl
theorem A56 (d k:Nat) (rows:Rows):SJ d true k (.sl true rows)=(.ref (d,k) rows.length,[.mem rows 0 false]):=rfl
theorem A57 (d k:Nat) (rows:Rows):SJ d true k (.sl false rows)=(.t (.sl false (AZ rows)),[]):=rfl
theorem yd (d:Nat) (own:Bool) (k:Nat):bu d own k []=([],[]):=rfl
theorem uJ (d:Nat) (own:Bool) (k:Nat) (t:T) (ts:List T):bu d own k (t::ts)=((SJ d own k t).1::(bu d own (k+(SJ d own k t).2.length) ts).1,(SJ d own k t).2++(bu d own (k+(SJ d own k t).2.length) ts).2):=rfl
theorem A2I (d:Nat) (own:Bool) (k:Nat) (c:T):OJ d own k (.t c)=SJ d own k c:=rfl
theorem uK (d:Nat) (own:Bool) (k:Nat) (cs:List T):OJ d own k (.agg cs)=(.agg (bu d own k cs).1,(bu d own k cs).2):=rfl
theorem uL (d:Nat) (own:Bool) (k:Nat) (cells:List T):OJ d own k (.box cells)=(.ptr (d,k) [] 0 0 1 0,[.mem [cells] 0 false]):=rfl
theorem rH (d k:Nat) (own:List Bool):HL d k own []=([],[]):=by cases own<;>rfl
theorem o8 (d k:Nat) (o:Bool) (own:List Bool) (v:RV) (vs:List RV):HL d k (o::own) (v::vs)=((OJ d o k v).1::(HL d (k+(OJ d o k v).2.length) own vs).1,(OJ d o k v).2++(HL d (k+(OJ d o k v).2.length) own vs).2):=rfl
theorem ye (d k:Nat) (v:RV) (vs:List RV):HL d k [] (v::vs)=((OJ d false k v).1::(HL d (k+(OJ d false k v).2.length) [] vs).1,(OJ d false k v).2++(HL d (k+(OJ d false k v).2.length) [] vs).2):=rfl
theorem FX {α:Type} (f g:α→List T) (h:∀x,Fm (f x)=g x) (l:List α):AZ (l.map f)=l.map g:=by
 induction l with
 |nil=>rfl
 |cons a l ih=>simp only[List.map_cons,AZ,h,ih]
theorem KP (l:List Int):AZ (l.map rI)=l.map rI:=FX _ _ (fun _=>rfl) l
theorem LM (k:IntKind) (l:List Int):AZ (l.map (rK k))=l.map (rK k):=FX _ _ (fun _=>rfl) l
theorem LN (l:List ByteArray):AZ (l.map rS)=l.map rS:=FX _ _ (fun _=>rfl) l
theorem LO (l:List Bool):AZ (l.map rB)=l.map rB:=FX _ _ (fun _=>rfl) l
theorem ID (o:Bool) (l:List (List Int)):AZ (l.map (rL o rI))=l.map (rL false rI):=FX _ _ (fun x=>by simp only[rL,Fm,frz,KP]) l
theorem FY {α:Type} (f:α→List T) (h:∀x,Cg (f x)=true) (l:List α):Aw (l.map f)=true:=by
 induction l with
 |nil=>rfl
 |cons a l ih=>simp only[List.map_cons,Aw,h,ih,Bool.and_self]
theorem KQ (l:List Int):Aw (l.map rI)=true:=FY _ (fun _=>rfl) l
theorem LP (k:IntKind) (l:List Int):Aw (l.map (rK k))=true:=FY _ (fun _=>rfl) l
theorem LQ (l:List ByteArray):Aw (l.map rS)=true:=FY _ (fun _=>rfl) l
theorem LR (l:List Bool):Aw (l.map rB)=true:=FY _ (fun _=>rfl) l
theorem IE (l:List (List Int)):Aw (l.map (rL true rI))=true:=FY _ (fun x=>by simp only[rL,Cg,allOwn,KQ,Bool.and_self]) l
theorem A58 (vals:List RV) (after:List (Option Rows)):(Ap.mk vals after).allOwn=(vals.all RV.allOwn&&after.all fun o=>match o with|some rows=>Aw rows|none=>true):=rfl
theorem Ds {α:Type} (f:α→List T) (sz:Nat) (h:∀x,(f x).length=sz) (l:List α):((l.map f).all fun r=>r.length==sz)=true:=by
 simp[List.all_map,h]
theorem A59 (l:List Int):((l.map rI).all fun r=>r.length==1)=true:=Ds _ _ (fun x=>by rfl) l
theorem A5A (k:IntKind) (l:List Int):((l.map (rK k)).all fun r=>r.length==1)=true:=Ds _ _ (fun x=>by rfl) l
theorem A5B (l:List ByteArray):((l.map rS).all fun r=>r.length==1)=true:=Ds _ _ (fun x=>by rfl) l
theorem A5C (l:List Bool):((l.map rB).all fun r=>r.length==1)=true:=Ds _ _ (fun x=>by rfl) l
theorem A5D {α:Type} (o:Bool) (f:α→List T) (l:List (List α)):((l.map (rL o f)).all fun r=>r.length==1)=true:=Ds _ _ (fun x=>by rfl) l
theorem A6O (ts:List Nat) (c:T):V.mentions ts (.t c)=false:=by simp only[V.mentions]
theorem A2J (ts:List Nat):V.mentions ts .nil=false:=by simp only[V.mentions]
theorem yf (ts:List Nat):V.mentions ts .dead=false:=by simp only[V.mentions]
theorem A5E (ts:List Nat) (c:List T):V.mentions ts (.pp c)=false:=by simp only[V.mentions]
theorem A5F {α:Type} (c:T) (k:RV→M α):bx (.t c) k=k (.t c):=rfl
theorem yg {α:Type} (k:RV→M α):bx .nil k=k (.t (.sl true [])):=rfl
theorem yh {α:Type} (id:Id) (n:Nat) (k:RV→M α):bx (.ref id n) k=take (.ref id n) fun t=>k (.t t):=rfl
theorem A5G {α:Type} (c:T) (k:T→M α):mS (.t c) k=k c:=rfl
theorem yi {α:Type} (id:Id) (n:Nat) (k:T→M α):mS (.ref id n) k=take (.ref id n) k:=rfl
theorem A5H (c:T):V.isDead (.t c)=false:=rfl
theorem yj : V.isDead .nil=false:=rfl
theorem yl (cs:List V):V.isDead (.agg cs)=false:=rfl
theorem ym (id:Id) (n:Nat):V.isDead (.ref id n)=false:=rfl
theorem yp (id:Id) (p:Path) (i c n st:Nat):V.isDead (.sub id p i c n st)=false:=rfl
theorem yq (id:Id) (p:Path) (i off n st:Nat):V.isDead (.ptr id p i off n st)=false:=rfl
theorem A2K (cs:List T):V.isDead (.pp cs)=false:=rfl
theorem A2L (f:FuncId) (caps:List V):V.isDead (.fn f caps)=false:=rfl
theorem A2M (k:IntKind) (a b:Int):eqK .int (.t (.v (.int k a))) (.t (.v (.int k b)))=some (Af a b):=by simp[eqK,Af]
theorem A2N (a b:ByteArray):eqK .str (.t (.v (.string a))) (.t (.v (.string b)))=some (D5 a b):=rfl
theorem yr (a b:Bool):eqK .bool (.t (.v (.bool a))) (.t (.v (.bool b)))=some (eqB a b):=rfl
theorem rJ (n:Int) (rs:Rows):CU ([.v (.int .u8 n)]::rs)=(CU rs).map fun l=>UInt8.ofNat n.toNat::l:=by simp[CU]
end TT
