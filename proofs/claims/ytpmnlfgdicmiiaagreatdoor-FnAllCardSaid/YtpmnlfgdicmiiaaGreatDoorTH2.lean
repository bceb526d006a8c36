import Derived.Test.YtpmnlfgdicmiiaaGreatDoorTH1
set_option linter.unusedVariables false
set_option linter.unusedSimpArgs false
namespace TT
open Go
def wr (k:IntKind) (a:Int):Int:=k.wrap a
def AV (a b:Int):Int:=IntKind.i64.wrap (a+b)
def CH (a b:Int):Int:=IntKind.i64.wrap (a-b)
def Y1 (a b:Int):Int:=IntKind.i64.wrap (a*b)
def A6p (a:Int):Int:=IntKind.i64.wrap (0-a)
def A45 (a b:Int):Option Int:=if b=0 then none else some (IntKind.i64.wrap (a.tdiv b))
def qS (a b:Int):Option Int:=if b=0 then none else some (a.tmod b)
def HC (a b:Int):Bool:=decide (a<b)
def U1 (a b:Int):Bool:=decide (a≤b)
def SH (a b:Int):Bool:=decide (a>b)
def UV (a b:Int):Bool:=decide (a≥b)
def Af (a b:Int):Bool:=a==b
def neI (a b:Int):Bool:=a != b
def nT (x y:ByteArray):Option ByteArray:=if x.size+y.size≤9223372036854775807 then some (x++y)else none
def D5 (x y:ByteArray):Bool:=x.toList==y.toList
def neS (x y:ByteArray):Bool:= !(x.toList==y.toList)
def ltS (x y:ByteArray):Bool:=Op.bytesLess x.toList y.toList
def leS (x y:ByteArray):Bool:=Op.bytesLess x.toList y.toList||x.toList==y.toList
def gtS (x y:ByteArray):Bool:= !(Op.bytesLess x.toList y.toList||x.toList==y.toList)
def geS (x y:ByteArray):Bool:= !(Op.bytesLess x.toList y.toList)
def eqB (a b:Bool):Bool:=a==b
def neB (a b:Bool):Bool:= !(a==b)
def A63 (a b:Int):Int:=if b<a then b else a
def A64 (a b:Int):Int:=if a<b then b else a
def Ag (x:ByteArray):Int:=x.size
def AD {α:Type} (l:List α):Int:=l.length
def A65 (n:Int):ByteArray:=Utf8.encode n
def getI {α:Type} (l:List α) (i:Int):Option α:=if 0≤i then l[i.toNat]? else none
def SZ (s:ByteArray) (i:Int):Option Int:=if h:0≤i∧i.toNat<s.size then some (s[i.toNat]'h.2).toNat else none
def TC (s:ByteArray) (l h:Int):Option ByteArray:=if 0≤l∧l≤h∧h≤s.size then some (s.extract l.toNat h.toNat)else none
def slL {α:Type} (s:List α) (l h:Int):Option (List α):=if 0≤l∧l≤h∧h≤s.length then some ((s.drop l.toNat).take (h.toNat-l.toNat))else none
def mkN (n:Int) (byt:Nat):Option Nat:=if 0≤n∧n.toNat*byt≤LIM∧0<byt then some n.toNat else none
def room (n byt:Nat):Option Unit:=if n*byt≤LIM∧0<byt then some ()else none
def rI (x:Int):List T:=[.v (.int .i64 x)]
def rK (k:IntKind) (x:Int):List T:=[.v (.int k x)]
def rS (x:ByteArray):List T:=[.v (.string x)]
def rB (x:Bool):List T:=[.v (.bool x)]
def rL {α:Type} (o:Bool) (f:α→List T) (l:List α):List T:=[.sl o (l.map f)]
def Ok {ρ:Type} (x:Option ρ) (e:ρ→Ap) (y:Option Ap):Prop:=∀r,x=some r→y=some (e r)
theorem kH {ρ:Type} {r:ρ} {e:ρ→Ap} {y:Option Ap} (h:y=some (e r)):Ok (some r) e y:=fun r' h'=>by cases h';exact h
theorem A0y {ρ:Type} {e:ρ→Ap} {y:Option Ap}:Ok none e y:=fun r' h'=>by cases h'
theorem A66 {ρ:Type} {b:Bool} {x x':Option ρ} {e:ρ→Ap} {y:Option Ap} (h1:b=true→Ok x e y) (h2:b=false→Ok x' e y):Ok (if b then x else x') e y:=by
 cases b
 ·exact h2 rfl
 ·exact h1 rfl
theorem E6 {α ρ:Type} {p:Option α} {f:α→Option ρ} {e:ρ→Ap} {y:Option Ap} (h:∀a,p=some a→Ok (f a) e y):Ok (p>>=f) e y:=fun r hr=>by
 obtain⟨a,h1,h2⟩:=Option.bind_eq_some_iff.1 hr
 exact h a h1 r h2
theorem ER {β ρ:Type} {g:Option β} {f:β→Option ρ} {e:ρ→Ap} {e':β→Ap} {Y:Option Ap} {k:Ap→Option Ap} (hg:Ok g e' Y) (h:∀v,Ok (f v) e (k (e' v))):Ok (g>>=f) e (Y.bind k):=fun r hr=>by
 obtain⟨a,h1,h2⟩:=Option.bind_eq_some_iff.1 hr
 rw[hg a h1]
 exact h a r h2
section
def U2 (k:IntKind) (a b:Int):Int:=Go.bits .and k a b
def orK (k:IntKind) (a b:Int):Int:=Go.bits .or k a b
def A0z (k:IntKind) (a b:Int):Int:=Go.bits .xor k a b
def sR (k:IntKind) (a b:Int):Int:=Go.bits .andNot k a b
def A10 (k:IntKind) (a b:Int):Int:=k.wrap (a+b)
def A11 (k:IntKind) (a b:Int):Int:=k.wrap (a-b)
def A12 (k:IntKind) (a b:Int):Int:=k.wrap (a*b)
def A46 (k:IntKind) (a b:Int):Option Int:=if b=0 then none else some (k.wrap (a.tdiv b))
def A6q (k:IntKind) (a b:Int):Option Int:=if b=0 then none else some (k.wrap (a.tmod b))
def A47 (k:IntKind) (a b:Int):Option Int:=if b<0 then none else some (k.wrap (a*2^(min b.toNat k.bits)))
def fw (k:IntKind) (a b:Int):Option Int:=if b<0 then none else some (a.fdiv (2^(min b.toNat k.bits)))
theorem A13 (k:IntKind) (a b:Int):DH .and (.int k a) (.int k b)=some (.int k (U2 k a b)):=by simp[DH,QQ,U2]
theorem A48 (k:IntKind) (a b:Int):DH .or (.int k a) (.int k b)=some (.int k (orK k a b)):=by simp[DH,QQ,orK]
theorem A14 (k:IntKind) (a b:Int):DH .xor (.int k a) (.int k b)=some (.int k (A0z k a b)):=by simp[DH,QQ,A0z]
theorem qT (k:IntKind) (a b:Int):DH .andNot (.int k a) (.int k b)=some (.int k (sR k a b)):=by simp[DH,QQ,sR]
theorem A15 (k k':IntKind) (a b:Int):DH .shl (.int k a) (.int k' b)=(A47 k a b).map (Value.int k):=by simp only[DH,A47];split<;>rfl
theorem A16 (k k':IntKind) (a b:Int):DH .shr (.int k a) (.int k' b)=(fw k a b).map (Value.int k):=by simp only[DH,fw];split<;>rfl
theorem qU (a b:Int):DH .add (.int .u8 a) (.int .u8 b)=some (.int .u8 (A10 .u8 a b)):=rfl
theorem qV (a b:Int):DH .sub (.int .u8 a) (.int .u8 b)=some (.int .u8 (A11 .u8 a b)):=rfl
theorem qW (a b:Int):DH .mul (.int .u8 a) (.int .u8 b)=some (.int .u8 (A12 .u8 a b)):=rfl
theorem nU (a b:Int):DH .add (.int .i32 a) (.int .i32 b)=some (.int .i32 (A10 .i32 a b)):=rfl
theorem nV (a b:Int):DH .sub (.int .i32 a) (.int .i32 b)=some (.int .i32 (A11 .i32 a b)):=rfl
theorem nW (a b:Int):DH .mul (.int .i32 a) (.int .i32 b)=some (.int .i32 (A12 .i32 a b)):=rfl
theorem nX (a b:Int):DH .add (.int .u32 a) (.int .u32 b)=some (.int .u32 (A10 .u32 a b)):=rfl
theorem nY (a b:Int):DH .sub (.int .u32 a) (.int .u32 b)=some (.int .u32 (A11 .u32 a b)):=rfl
theorem nZ (a b:Int):DH .mul (.int .u32 a) (.int .u32 b)=some (.int .u32 (A12 .u32 a b)):=rfl
theorem nc (a b:Int):DH .add (.int .u64 a) (.int .u64 b)=some (.int .u64 (A10 .u64 a b)):=rfl
theorem nd (a b:Int):DH .sub (.int .u64 a) (.int .u64 b)=some (.int .u64 (A11 .u64 a b)):=rfl
theorem nf (a b:Int):DH .mul (.int .u64 a) (.int .u64 b)=some (.int .u64 (A12 .u64 a b)):=rfl
theorem A17 (a b:Int):DH .add (.int .i64 a) (.int .i64 b)=some (.int .i64 (AV a b)):=rfl
theorem A18 (a b:Int):DH .sub (.int .i64 a) (.int .i64 b)=some (.int .i64 (CH a b)):=rfl
theorem A19 (a b:Int):DH .mul (.int .i64 a) (.int .i64 b)=some (.int .i64 (Y1 a b)):=rfl
theorem A1A (a b:Int):DH .quo (.int .i64 a) (.int .i64 b)=(A45 a b).map (Value.int .i64):=by simp only[DH,QQ,A45,if_true];split<;>rfl
theorem ng (a b:Int):DH .quo (.int .u64 a) (.int .u64 b)=(A46 .u64 a b).map (Value.int .u64):=by simp only[DH,QQ,A46,if_true];split<;>rfl
theorem A1B (a b:Int):DH .rem (.int .i64 a) (.int .i64 b)=(qS a b).map (Value.int .i64):=by simp only[DH,QQ,qS,if_true];split<;>rfl
theorem A49 (k:IntKind) (a b:Int):DH .lss (.int k a) (.int k b)=some (.bool (HC a b)):=by simp only[DH,QQ,HC,if_true]
theorem A4A (k:IntKind) (a b:Int):DH .leq (.int k a) (.int k b)=some (.bool (U1 a b)):=by simp only[DH,QQ,U1,if_true]
theorem A4B (k:IntKind) (a b:Int):DH .gtr (.int k a) (.int k b)=some (.bool (SH a b)):=by simp only[DH,QQ,SH,if_true]
theorem A4C (k:IntKind) (a b:Int):DH .geq (.int k a) (.int k b)=some (.bool (UV a b)):=by simp only[DH,QQ,UV,if_true]
theorem A4D (k:IntKind) (a b:Int):DH .eql (.int k a) (.int k b)=some (.bool (Af a b)):=by simp only[DH,QQ,Af,if_true]
theorem A4E (k:IntKind) (a b:Int):DH .neq (.int k a) (.int k b)=some (.bool (neI a b)):=by simp only[DH,QQ,neI,if_true]
theorem A1C (a b:ByteArray):DH .add (.string a) (.string b)=(nT a b).map Value.string:=by simp only[DH,vg,nT];split<;>rfl
theorem A4F (a b:ByteArray):DH .eql (.string a) (.string b)=some (.bool (D5 a b)):=rfl
theorem A4G (a b:ByteArray):DH .neq (.string a) (.string b)=some (.bool (neS a b)):=rfl
theorem A4H (a b:ByteArray):DH .lss (.string a) (.string b)=some (.bool (ltS a b)):=rfl
theorem A4I (a b:ByteArray):DH .leq (.string a) (.string b)=some (.bool (leS a b)):=rfl
theorem A4J (a b:ByteArray):DH .gtr (.string a) (.string b)=some (.bool (gtS a b)):=rfl
theorem A4K (a b:ByteArray):DH .geq (.string a) (.string b)=some (.bool (geS a b)):=rfl
end
def Bg {α β:Type}:Option α→(α→M β)→M β
 |some a,k=>k a
 |none,_=> .fail
section
variable (s:List V) (d:Nat)
theorem A4L (x:CC):Aj s d (.mv x)= .ret (A4 s x):=rfl
def wu (c a b:V):M V:=match c with
 | .t (.v (.bool t))=> .ret (if t then a else b)
 |_=> .fail
theorem wv (c a b:CC):Aj s d (.pick c a b)=wu (A4 s c) (A4 s a) (A4 s b):=rfl
theorem A1D (a b:V):wu (.t (.v (.bool true))) a b= .ret a:=rfl
theorem A1E (a b:V):wu (.t (.v (.bool false))) a b= .ret b:=rfl
theorem ta (z:List T):Aj s d (.alloc z)= .new [.mem [z] 0 false] (.ret (.ptr (d,0) [] 0 0 1 0)):=rfl
theorem A1F (x:CC):Aj s d (.box x)=EC (cellsOf (A4 s x)) fun ts=>if ts.isEmpty then .fail else .new [.mem [ts] 0 false] (.ret (.ptr (d,0) [] 0 0 1 0)):=rfl
def A67 (d:Nat):V→M V
 | .agg cs=>if cs.isEmpty|| !cs.all V.one then .fail else .new [.mem [List.replicate cs.length .hole] 0 false] (.ret (.vb (d,0) 0 0 cs))
 |_=> .fail
theorem ww (x:CC):Aj s d (.vbox x)=A67 d (A4 s x):=by
 simp only[Aj];generalize A4 s x=v;cases v<;>rfl
def A1G (id:Id) (n:Nat) (cs:List V):E2→M V
 | .mem [row] stt fx=>if row.length=n then .set id (.mem [List.replicate n .hole] (stt+1) fx) (.ret (.vb id 0 (stt+1) cs))else .fail
 |_=> .fail
def A1H (n:Nat) (x y:V):M V:=match Zv x,y with
 |some id, .agg cs=>if cs.length=n∧cs.all V.one=true then .get id (A1G id n cs)else .fail
 |_,_=> .fail
theorem A1I (n:Nat) (x y:CC):Aj s d (.vst n x y)=A1H n (A4 s x) (A4 s y):=by
 simp only[Aj]
 generalize A4 s x=v
 generalize A4 s y=u
 simp only[A1H]
 generalize Zv v=q
 cases q with
 |none=>rfl
 |some id=>
  cases u<;>try rfl
def zV : T→V
 | .sl true []=> .nil
 |c=> .t c
theorem tb (z:List T) (parts:List (Nat×Nat×CC)):Aj s d (.build z parts)=Bg (bld s (z.map zV) parts) fun cs=> .ret (.agg cs):=by
 have e:Aj s d (.build z parts)=match bld s (z.map zV) parts with|some cs=> .ret (.agg cs)|none=> .fail:=rfl
 rw[e]
 cases bld s (z.map zV) parts<;>rfl
def A68 (d sz:Nat) (rs:Rows):M V:=if rs.all fun r=>r.length==sz then .new [.mem rs 0 false] (.ret (.ref (d,0) rs.length))else .fail
theorem A1J (sz:Nat) (parts:List CC):Aj s d (.bsl sz parts)=D7 (parts.map fun q=>cellsOf (A4 s q)) (A68 d sz):=rfl
def A3K (d sz:Nat) (rs:Rows):M V:=if rs.all fun r=>r.length==sz then .new [.mem rs 0 false] (.set (d,0) .dead (.ret (.t (.sl false (AZ rs)))))else .fail
theorem wy (sz:Nat) (parts:List CC):Aj s d (.bslz sz parts)=D7 (parts.map fun q=>cellsOf (A4 s q)) (A3K d sz):=rfl
def ak (ag:Bool) (vs:List V):M V:=if ag then .ret (.agg vs)else match vs with| [v]=> .ret v|_=> .fail
theorem A1K (vs:List V):ak true vs= .ret (.agg vs):=rfl
theorem wz (v:V):ak false [v]= .ret v:=rfl
def ldE (n:Nat) (ag:Bool) (id:Id) (p:Path) (i off m st:Nat):E2→M V
 | .mem rows stt _=>Bg (D3 rows stt p i m st) fun row=>if off+n≤row.length then ak ag (Mq id p i off stt ((row.drop off).take n))else .fail
 | .dead=> .fail
def ldX (n:Nat) (ag:Bool) (off st:Nat) (cs:List V):E2→M V
 | .mem rows stt _=>if(st=stt∧rows.length=1)∧off+n≤cs.length then ak ag ((cs.drop off).take n)else .fail
 | .dead=> .fail
def ldV (n:Nat) (ag:Bool):V→M V
 | .ptr id p i off m st=> .get id (ldE n ag id p i off m st)
 | .vb id off st cs=> .get id (ldX n ag off st cs)
 | .pp cs=>if n≤cs.length then ak ag ((cs.take n).map tV)else .fail
 |_=> .fail
theorem A4M (n:Nat) (ag:Bool) (x:CC):Aj s d (.ld n ag x)=ldV n ag (A4 s x):=by
 simp only[Aj]
 generalize A4 s x=v
 cases v<;>try rfl
 ·simp only[ldV]
  congr 1
  funext e
  cases e<;>try rfl
  simp only[ldE]
  generalize D3 _ _ _ _ _ _=o
  cases o<;>rfl
 ·simp only[ldV]
  congr 1
  funext e
  cases e<;>rfl
def stE (id:Id) (p:Path) (i off m st n:Nat) (ts:List T):E2→M V
 | .mem rows stt fx=>Bg (D3 rows stt p i m st) fun row=>if ts.length=n∧off+n≤row.length then .set id (.mem (IB rows p i off ts) (stt+1) fx) (.ret .dead)else .fail
 | .dead=> .fail
def stV (n:Nat) (x y:V):M V:=match x with
 | .ptr id p i off m st=>EC (cellsOf y) fun ts=> .get id (stE id p i off m st n ts)
 |_=> .fail
theorem A1L (n:Nat) (id:Id) (p:Path) (i off m st:Nat) (y:V):stV n (.ptr id p i off m st) y=EC (cellsOf y) fun ts=> .get id (stE id p i off m st n ts):=rfl
theorem A4N (n:Nat) (x y:CC):Aj s d (.st n x y)=stV n (A4 s x) (A4 s y):=by
 simp only[Aj]
 generalize A4 s x=v
 cases v<;>try rfl
 simp only[stV]
 congr 1
 funext ts
 congr 1
 funext e
 cases e<;>try rfl
 simp only[stE]
 generalize D3 _ _ _ _ _ _=o
 cases o<;>rfl
def A1M (id:Id) (p:Path) (i off m st:Nat) (ts:List T):E2→M V
 | .mem rows stt fx=>Bg (D3 rows stt p i m st) fun row=>if ts.length=1∧off+1≤row.length then .set id (.mem (IB rows p i off ts) (stt+1) fx) (.ret (bv id p i off (stt+1) ts))else .fail
 | .dead=> .fail
theorem xA (id:Id) (p:Path) (i off m st:Nat) (ts:List T) (rows:Rows) (stt:Nat) (fx:Bool):A1M id p i off m st ts (.mem rows stt fx)=Bg (D3 rows stt p i m st) fun row=>if ts.length=1∧off+1≤row.length then .set id (.mem (IB rows p i off ts) (stt+1) fx) (.ret (bv id p i off (stt+1) ts))else .fail:=rfl
def A4O (x y:V):M V:=match x,y with
 | .ptr id p i off m st, .ref id2 n2=>EC [.ref id2 n2] fun ts=> .get id (A1M id p i off m st ts)
 |_,_=> .fail
theorem xB (id:Id) (p:Path) (i off m st:Nat) (id2:Id) (n2:Nat):A4O (.ptr id p i off m st) (.ref id2 n2)=EC [.ref id2 n2] fun ts=> .get id (A1M id p i off m st ts):=rfl
theorem A1N (id:Id) (p:Path) (i off st:Nat) (rs:Rows):bv id p i off st [.sl true rs]= .sub id p i off rs.length st:=rfl
theorem A1O (x y:CC):Aj s d (.stk x y)=A4O (A4 s x) (A4 s y):=by
 simp only[Aj]
 generalize A4 s x=v
 generalize A4 s y=u
 cases v<;>cases u<;>try rfl
 simp only[A4O]
 congr 1
 funext ts
 congr 1
 funext e
 cases e with
 |dead=>rfl
 |mem rows stt fx=>
  simp only[A1M]
  cases D3 rows stt _ _ _ _<;>rfl
theorem A69 : zV (.sl false [])= .t (.sl false []):=rfl
def sS : V→M V
 | .ptr a b c d e f=> .ret (.ptr a b c d e f)
 | .vb a b c d=> .ret (.vb a b c d)
 | .pp cs=> .ret (.pp cs)
 | .fn f caps=> .ret (.fn f caps)
 |_=> .fail
theorem xC (x:CC):Aj s d (.nilc x)=sS (A4 s x):=by
 simp only[Aj];generalize A4 s x=v;cases v<;>rfl
def A4P (op:BinOp) (x y:V):M V:=match x,y with
 | .t (.v a), .t (.v b)=>Bg (DH op a b) fun r=> .ret (.t (.v r))
 |_,_=> .fail
theorem A4Q (op:BinOp) (a b:Value):A4P op (.t (.v a)) (.t (.v b))=Bg (DH op a b) fun r=> .ret (.t (.v r)):=rfl
theorem A1P (op:BinOp) (x y:CC):Aj s d (.bin op x y)=A4P op (A4 s x) (A4 s y):=by
 simp only[Aj]
 generalize A4 s x=a
 generalize A4 s y=b
 cases a<;>try rfl
 rename_i a;cases a<;>try rfl
 cases b<;>try rfl
 rename_i b;cases b<;>try rfl
 rename_i a b
 simp only[A4P]
 cases DH op a b<;>rfl
def A4R (ne:Bool) (ks:List FK) (x y:V):M V:=match x,y with
 | .agg as, .agg bs=>Bg (Z1 ks as bs) fun r=> .ret (.t (.v (.bool (if ne then !r else r))))
 |_,_=> .fail
theorem xD (ne:Bool) (ks:List FK) (as bs:List V):A4R ne ks (.agg as) (.agg bs)=Bg (Z1 ks as bs) fun r=> .ret (.t (.v (.bool (if ne then !r else r)))):=rfl
theorem A1Q (ne:Bool) (ks:List FK) (x y:CC):Aj s d (.eqs ne ks x y)=A4R ne ks (A4 s x) (A4 s y):=by
 simp only[Aj]
 generalize A4 s x=a
 generalize A4 s y=b
 cases a<;>try rfl
 cases b<;>try rfl
 rename_i a b
 simp only[A4R]
 cases Z1 ks a b<;>rfl
def A4S (ne:Bool) (x y:V):M V:=match x,y with
 | .t (.v (.bool a)), .t (.v (.bool b))=> .ret (.t (.v (.bool (if ne then neB a b else eqB a b))))
 |_,_=> .fail
theorem A4T (a b:Bool):A4S false (.t (.v (.bool a))) (.t (.v (.bool b)))= .ret (.t (.v (.bool (eqB a b)))):=rfl
theorem A4U (a b:Bool):A4S true (.t (.v (.bool a))) (.t (.v (.bool b)))= .ret (.t (.v (.bool (neB a b)))):=rfl
theorem A1R (ne:Bool) (x y:CC):Aj s d (.beq ne x y)=A4S ne (A4 s x) (A4 s y):=rfl
def A1S (ne:Bool):V→M V
 | .nil=> .ret (.t (.v (.bool (!ne))))
 | .t (.v (.slice q _ _))=> .ret (.t (.v (.bool (if ne then !q.isNone else q.isNone))))
 | .t (.sl _ (_::_))=> .ret (.t (.v (.bool ne)))
 |_=> .fail
theorem xE (ne:Bool):A1S ne .nil= .ret (.t (.v (.bool (!ne)))):=rfl
theorem A4V (ne:Bool) (q:Option Addr) (n c:Nat):A1S ne (.t (.v (.slice q n c)))= .ret (.t (.v (.bool (if ne then !q.isNone else q.isNone)))):=rfl
theorem A4W (ne o:Bool) (r:List T) (rs:Rows):A1S ne (.t (.sl o (r::rs)))= .ret (.t (.v (.bool ne))):=rfl
theorem A1T (ne:Bool) (x:CC):Aj s d (.eqn ne x)=A1S ne (A4 s x):=by
 simp only[Aj]
 generalize A4 s x=v
 cases v<;>try rfl
def unV (op:UnOp) (x:V):M V:=match op,x with
 | .not, .t (.v (.bool b))=> .ret (.t (.v (.bool (!b))))
 | .neg, .t (.v (.int k n))=> .ret (.t (.v (.int k (k.wrap (0-n)))))
 |_,_=> .fail
theorem A1U (b:Bool):unV .not (.t (.v (.bool b)))= .ret (.t (.v (.bool (!b)))):=rfl
theorem A1V (n:Int):unV .neg (.t (.v (.int .i64 n)))= .ret (.t (.v (.int .i64 (A6p n)))):=rfl
def A6A (ne:Bool):V→M V
 | .t (.v .nilIface)=> .ret (.t (.v (.bool (!ne))))
 |_=> .fail
theorem xF (ne:Bool):A6A ne (.t (.v .nilIface))= .ret (.t (.v (.bool (!ne)))):=rfl
theorem A1W (ne:Bool) (x:CC):Aj s d (.eqi ne x)=A6A ne (A4 s x):=rfl
theorem A4X (op:UnOp) (x:CC):Aj s d (.un op x)=unV op (A4 s x):=rfl
def cvV (c:Cv) (x:V):M V:=match c with
 | .str=>(match x with
  | .sub .. => .fail
  |x=>FA x fun rows=>Bg (CU rows) fun l=> .ret (.t (.v (.string ⟨l.toArray⟩))))
 |c=>Bg (Zu c x) .ret
theorem A4Y (k k':IntKind) (n:Int):cvV (.int k') (.t (.v (.int k n)))= .ret (.t (.v (.int k' (wr k' n)))):=rfl
theorem A1X (k:IntKind) (n:Int):cvV .rune (.t (.v (.int k n)))= .ret (.t (.v (.string (A65 n)))):=rfl
def TD (s:ByteArray):List Int:=s.data.toList.map fun b=>(b.toNat:Int)
def ZB (s:ByteArray):Option (List Int):=if s.size≤maxLen then some (TD s)else none
theorem xG (x:ByteArray):cvV .bytes (.t (.v (.string x)))=Bg (ZB x) fun l=> .ret (.t (.sl false (l.map (rK .u8)))):=by
 simp only[cvV,Zu,ZB]
 split
 ·simp only[Bg,Cb,TD,List.map_map];rfl
 ·rfl
theorem A1Y (x:ByteArray):cvV .same (.t (.v (.string x)))= .ret (.t (.v (.string x))):=rfl
def A1Z (rows:Rows):M V:=Bg (CU rows) fun l=> .ret (.t (.v (.string ⟨l.toArray⟩)))
theorem A1a (rows:Rows):A1Z rows=Bg (CU rows) fun l=> .ret (.t (.v (.string ⟨l.toArray⟩))):=rfl
theorem xH (o:Bool) (rows:Rows):cvV .str (.t (.sl o rows))=A1Z rows:=rfl
theorem qX : cvV .str .nil=A1Z []:=rfl
theorem qY (id:Id) (n:Nat):cvV .str (.ref id n)=FA (.ref id n) A1Z:=rfl
theorem xI (c:Cv) (x:CC):Aj s d (.conv c x)=cvV c (A4 s x):=by
 cases c<;>simp only[Aj,cvV]
 case str=>
  generalize A4 s x=v
  cases v<;>try rfl
  ·rename_i c;cases c<;>try rfl
   simp only[FA]
   cases CU _<;>rfl
  ·show FA _ _=FA _ _
   congr 1;funext rows;cases CU rows<;>rfl
 all_goals (cases Zu _ (A4 s x)<;>rfl)
def A4Z (d:Nat) (z:List T) (byt:Nat):V→M V
 | .t (.v (.int _ n))=>Bg (mkN n byt) fun m=> .new [.mem (List.replicate m z) 0 false] (.ret (.ref (d,0) m))
 |_=> .fail
theorem A1b (z:List T) (byt:Nat) (x:CC):Aj s d (.mks z byt x)=A4Z d z byt (A4 s x):=by
 simp only[Aj]
 generalize A4 s x=v
 cases v<;>try rfl
 rename_i c;cases c<;>try rfl
 rename_i x;cases x<;>try rfl
 simp only[A4Z,mkN]
 split<;>rfl
def iaK (sz:Nat) (id:Id) (p:Path) (n m st:Nat) (row:List T):M V:=if row.length=sz then .ret (.ptr id p n 0 m st)else .fail
def iaS (sz:Nat) (id:Id) (p:Path) (n:Int) (m st:Nat) (rows:Rows):M V:=if rows.length=m then Bg (getI rows n) (iaK sz id p n.toNat m st)else .fail
def iaE (sz:Nat) (id:Id) (m:Nat) (n:Int):E2→M V
 | .mem rows _ _=>iaS sz id [] n m 0 rows
 | .dead=> .fail
def iaC (sz:Nat) (id:Id) (p:Path) (j c:Nat) (n:Int) (m st:Nat):E2→M V
 | .mem rows stt _=>if st=stt then Bg (Be rows p j c) fun
   | .sl true rs=>iaS sz id (p++[(j,c)]) n m st rs
   |_=> .fail
  else .fail
 | .dead=> .fail
def iaP (sz:Nat) (row:List T):M V:=if row.length=sz then .ret (.pp row)else .fail
def iaV (sz:Nat) (x i:V):M V:=match i with
 | .t (.v (.int _ n))=>if 0≤n then(match x with
  | .t (.sl _ rows)=>Bg (getI rows n) (iaP sz)
  | .ref id m=> .get id (iaE sz id m n)
  | .sub id p j c m st=> .get id (iaC sz id p j c n m st)
  |_=> .fail)else .fail
 |_=> .fail
theorem A4a (sz:Nat) (o:Bool) (rows:Rows) (k:IntKind) (n:Int):iaV sz (.t (.sl o rows)) (.t (.v (.int k n)))=if 0≤n then Bg (getI rows n) (iaP sz)else .fail:=rfl
theorem A1c (sz:Nat) (id:Id) (m:Nat) (k:IntKind) (n:Int):iaV sz (.ref id m) (.t (.v (.int k n)))=if 0≤n then .get id (iaE sz id m n)else .fail:=rfl
theorem A1d (sz:Nat) (id:Id) (p:Path) (j c m st:Nat) (k:IntKind) (n:Int):iaV sz (.sub id p j c m st) (.t (.v (.int k n)))=if 0≤n then .get id (iaC sz id p j c n m st)else .fail:=rfl
theorem UW {α:Type} {l:List α} {n:Int} (h:0≤n):getI l n=l[n.toNat]? :=if_pos h
theorem A4b (sz:Nat) (id:Id) (p:Path) (n m st:Nat) (o:Option (List T)):(match o with|some row=>if row.length=sz then M.ret (V.ptr id p n 0 m st)else .fail|none=> .fail)=Bg o (iaK sz id p n m st):=by cases o<;>rfl
theorem A4c (sz:Nat) (x i:CC):Aj s d (.ia sz x i)=iaV sz (A4 s x) (A4 s i):=by
 simp only[Aj]
 generalize A4 s x=a
 generalize A4 s i=b
 cases b<;>try rfl
 rename_i b;cases b<;>try rfl
 rename_i b;cases b<;>try rfl
 rename_i k n
 simp only[iaV]
 split
 ·rename_i h0
  cases a<;>try rfl
  ·rename_i a;cases a<;>try rfl
   rename_i rows
   simp only[UW h0,Bg]
   cases rows[n.toNat]?<;>rfl
  ·show M.get _ _=M.get _ _
   congr 1
   funext e;cases e<;>try rfl
   simp only[iaE,iaS,UW h0]
   rw[←A4b];rfl
  ·show M.get _ _=M.get _ _
   congr 1
   funext e;cases e<;>try rfl
   simp only[iaC,iaS,UW h0]
   split
   ·cases Be _ _ _ _ with
    |none=>rfl
    |some t=>
     cases t<;>try rfl
     rename_i o rs
     cases o<;>try rfl
     simp only[Bg]
     split
     ·cases rs[n.toNat]?<;>rfl
     ·rfl
   ·rfl
 ·rfl
def faV (off:Nat):V→M V
 | .ptr id p i o n st=> .ret (.ptr id p i (o+off) n st)
 | .vb id o st cs=> .ret (.vb id (o+off) st cs)
 | .pp cs=> .ret (.pp (cs.drop off))
 |_=> .fail
theorem A1e (off:Nat) (id:Id) (p:Path) (i o n st:Nat):faV off (.ptr id p i o n st)= .ret (.ptr id p i (o+off) n st):=rfl
theorem A4d (off:Nat) (cs:List T):faV off (.pp cs)= .ret (.pp (cs.drop off)):=rfl
theorem A4e (off:Nat) (x:CC):Aj s d (.fa off x)=faV off (A4 s x):=by
 simp only[Aj];generalize A4 s x=v;cases v<;>rfl
def A6B (off n:Nat) (ag:Bool):V→M V
 | .agg cs=>if off+n≤cs.length then ak ag ((cs.drop off).take n)else .fail
 |_=> .fail
theorem xJ (off n:Nat) (ag:Bool) (cs:List V):A6B off n ag (.agg cs)=if off+n≤cs.length then ak ag ((cs.drop off).take n)else .fail:=rfl
theorem A1f (off n:Nat) (ag:Bool) (x:CC):Aj s d (.fld off n ag x)=A6B off n ag (A4 s x):=by
 simp only[Aj];generalize A4 s x=v;cases v<;>rfl
def ixV (x i:V):M V:=match x,i with
 | .t (.v (.string st)), .t (.v (.int _ n))=>Bg (SZ st n) fun b=> .ret (.t (.v (.int .u8 b)))
 |_,_=> .fail
theorem A6C (st:ByteArray) (k:IntKind) (n:Int):ixV (.t (.v (.string st))) (.t (.v (.int k n)))=Bg (SZ st n) fun b=> .ret (.t (.v (.int .u8 b))):=rfl
theorem A4f (x i:CC):Aj s d (.ix x i)=ixV (A4 s x) (A4 s i):=by
 simp only[Aj]
 generalize A4 s x=a
 generalize A4 s i=b
 cases a<;>try rfl
 rename_i a;cases a<;>try rfl
 rename_i a;cases a<;>try rfl
 cases b<;>try rfl
 rename_i b;cases b<;>try rfl
 rename_i b;cases b<;>try rfl
 simp only[ixV,SZ]
 split<;>rfl
def A6D (sz len:Nat) (ag:Bool) (x i:V):M V:=match x,i with
 | .agg cs, .t (.v (.int _ n))=>if 0≤n∧n<len∧cs.length=len*sz then ak ag ((cs.drop (n.toNat*sz)).take sz)else .fail
 |_,_=> .fail
theorem xK (sz len:Nat) (ag:Bool) (cs:List V) (k:IntKind) (n:Int):A6D sz len ag (.agg cs) (.t (.v (.int k n)))=if 0≤n∧n<len∧cs.length=len*sz then ak ag ((cs.drop (n.toNat*sz)).take sz)else .fail:=rfl
theorem A1g (sz len:Nat) (ag:Bool) (x i:CC):Aj s d (.ixa sz len ag x i)=A6D sz len ag (A4 s x) (A4 s i):=by
 simp only[Aj]
 generalize A4 s x=a
 generalize A4 s i=b
 cases a<;>rfl
def bnd (o:Option V) (e:Int):Option Int:=match o with
 |none=>some e
 |some (.t (.v (.int _ n)))=>some n
 |_=>none
theorem xL (e:Int):bnd none e=some e:=rfl
theorem xM (e:Int) (k:IntKind) (n:Int):bnd (some (.t (.v (.int k n)))) e=some n:=rfl
def xO (sz:Nat) (x:V) (lo hi:Option V):M V:=match x with
 | .t (.v (.string st))=>Bg (bnd lo 0) fun l=>Bg (bnd hi (Ag st)) fun h=>if sz=0 then Bg (TC st l h) fun z=> .ret (.t (.v (.string z)))else .fail
 | .t (.sl _ rows)=>Bg (bnd lo 0) fun l=>Bg (bnd hi (AD rows)) fun h=>if 0<sz∧(rows.all fun r=>r.length==sz)then Bg (slL rows l h) fun z=> .ret (.t (.sl false z))else .fail
 |_=> .fail
theorem A4g (sz:Nat) (st:ByteArray) (lo hi:Option V):xO sz (.t (.v (.string st))) lo hi=Bg (bnd lo 0) fun l=>Bg (bnd hi (Ag st)) fun h=>if sz=0 then Bg (TC st l h) fun z=> .ret (.t (.v (.string z)))else .fail:=rfl
theorem A4h (sz:Nat) (o:Bool) (rows:Rows) (lo hi:Option V):xO sz (.t (.sl o rows)) lo hi=Bg (bnd lo 0) fun l=>Bg (bnd hi (AD rows)) fun h=>if 0<sz∧(rows.all fun r=>r.length==sz)then Bg (slL rows l h) fun z=> .ret (.t (.sl false z))else .fail:=rfl
def A1h (sz:Nat) (x:V) (l h:Option Int→Option Int):M V:=match x with
 | .t (.v (.string st))=>(match l (some 0),h (some st.size)with
   |some l,some h=>if(0≤l∧l≤h∧h≤st.size)∧sz=0 then .ret (.t (.v (.string (st.extract l.toNat h.toNat))))else .fail
   |_,_=> .fail)
 | .t (.sl _ rows)=>(match l (some 0),h (some rows.length)with
   |some l,some h=>if(0≤l∧l≤h∧h≤rows.length)∧0<sz∧(rows.all fun r=>r.length==sz)then .ret (.t (.sl false ((rows.drop l.toNat).take (h.toNat-l.toNat))))else .fail
   |_,_=> .fail)
 |_=> .fail
def bnE (s:List V) (o:Option CC) (e:Option Int):Option Int:=match o with
 |none=>e
 |some q=>match A4 s q with| .t (.v (.int _ n))=>some n|_=>none
theorem xP (sz:Nat) (x:CC) (lo hi:Option CC):Aj s d (.slc sz x lo hi)=A1h sz (A4 s x) (bnE s lo) (bnE s hi):=by
 simp only[Aj,A1h]
 cases lo<;>cases hi<;>rfl
theorem kI (o:Option CC) (e:Int):bnE s o (some e)=bnd (o.map (A4 s)) e:=by
 cases o with
 |none=>rfl
 |some q=>
  simp only[Option.map_some,bnE]
  generalize A4 s q=v
  cases v<;>try rfl
  rename_i v;cases v<;>try rfl
  rename_i v;cases v<;>rfl
theorem sT {A C:Prop} [Decidable A] [Decidable C] {α:Type} (k:α→M V) (x:α):(if A∧C then k x else M.fail)=if C then Bg (if A then some x else none) k else M.fail:=by
 by_cases A<;>by_cases C<;>simp_all[Bg]
theorem A1i (sz:Nat) (x:CC) (lo hi:Option CC):Aj s d (.slc sz x lo hi)=xO sz (A4 s x) (lo.map (A4 s)) (hi.map (A4 s)):=by
 rw[xP]
 generalize A4 s x=a
 cases a<;>try rfl
 rename_i a;cases a<;>try rfl
 ·rename_i a;cases a<;>try rfl
  rename_i st
  simp only[xO,A1h,Ag,kI]
  generalize bnd (lo.map (A4 s)) 0=l
  generalize bnd (hi.map (A4 s)) (st.size:Int)=h
  cases l<;>cases h<;>try rfl
  exact sT (fun z=> .ret (.t (.v (.string z)))) _
 ·rename_i o rows
  simp only[xO,A1h,AD,kI]
  generalize bnd (lo.map (A4 s)) 0=l
  generalize bnd (hi.map (A4 s)) (rows.length:Int)=h
  cases l<;>cases h<;>try rfl
  exact sT (fun z=> .ret (.t (.sl false z))) _
theorem xQ (f:FuncId) (md:List Md) (own:List Bool) (args:List CC):Aj s d (.call f md own args)=UJ d f md own (args.map (A4 s)):=rfl
def cvv (d:Nat) (md:List Md) (own:List Bool) (args:List V):V→M V
 | .fn f caps=>UJ d f (md++(caps.map fun _=>Md.ref)) own (args++caps)
 |_=> .fail
theorem tc (x:CC) (md:List Md) (own:List Bool) (args:List CC):Aj s d (.callv x md own args)=cvv d md own (args.map (A4 s)) (A4 s x):=by
 simp only[Aj];generalize A4 s x=v;cases v<;>rfl
def td (id:Id) (n sz byt:Nat) (new:Rows):E2→M V
 | .mem rows st _=>if rows.length=n∧(rows.all fun r=>r.length==sz)then Bg (room (n+new.length) byt) fun _=> .set id (.mem (rows++new) st false) (.ret (.ref id (n+new.length)))else .fail
 | .dead=> .fail
def A4i (d sz byt:Nat) (new:Rows):T→M V
 | .sl true rows=>if(rows.all fun r=>r.length==sz)then Bg (room (rows.length+new.length) byt) fun _=> .new [.mem (rows++new) 0 false] (.ret (.ref (d,0) (rows.length+new.length)))else .fail
 |_=> .fail
def qZ (d sz byt:Nat) (new:Rows):V→M V
 | .nil=>Bg (room new.length byt) fun _=> .new [.mem new 0 false] (.ret (.ref (d,0) new.length))
 | .ref id n=> .get id (td id n sz byt new)
 | .sub id p i c n st=>take (.sub id p i c n st) (A4i d sz byt new)
 |_=> .fail
def te (d sz byt:Nat) (a:V) (new:Rows):M V:=if(new.all fun r=>r.length==sz)then qZ d sz byt new a else .fail
theorem xR (d sz byt:Nat) (new:Rows):qZ d sz byt new .nil=Bg (room new.length byt) fun _=> .new [.mem new 0 false] (.ret (.ref (d,0) new.length)):=rfl
theorem xS (d sz byt:Nat) (new:Rows) (id:Id) (n:Nat):qZ d sz byt new (.ref id n)= .get id (td id n sz byt new):=rfl
theorem xT (d sz byt:Nat) (new:Rows) (id:Id) (p:Path) (i c n st:Nat):qZ d sz byt new (.sub id p i c n st)=take (.sub id p i c n st) (A4i d sz byt new):=rfl
theorem xU (id:Id) (n sz byt:Nat) (new rows:Rows) (st:Nat) (fx:Bool):td id n sz byt new (.mem rows st fx)=if rows.length=n∧(rows.all fun r=>r.length==sz)then Bg (room (n+new.length) byt) fun _=> .set id (.mem (rows++new) st false) (.ret (.ref id (n+new.length)))else .fail:=rfl
theorem A1j (d sz byt:Nat) (new rows:Rows):A4i d sz byt new (.sl true rows)=if(rows.all fun r=>r.length==sz)then Bg (room (rows.length+new.length) byt) fun _=> .new [.mem (rows++new) 0 false] (.ret (.ref (d,0) (rows.length+new.length)))else .fail:=rfl
theorem nh {A B C D:Prop} [Decidable A] [Decidable B] [Decidable C] [Decidable D] (X:M V):(if A∧B∧C∧D then X else M.fail)=if A∧D then Bg (if B∧C then some ()else none) (fun _=>X)else M.fail:=by
 by_cases A<;>by_cases B<;>by_cases C<;>by_cases D<;>simp_all[Bg]
theorem jL {B C D:Prop} [Decidable B] [Decidable C] [Decidable D] (X:M V):(if B∧C∧D then X else M.fail)=if D then Bg (if B∧C then some ()else none) (fun _=>X)else M.fail:=by
 by_cases B<;>by_cases C<;>by_cases D<;>simp_all[Bg]
theorem A1k (sz byt:Nat) (a x:CC):Aj s d (.app sz byt a x)=Gk (A4 s x) (te d sz byt (A4 s a)):=by
 simp only[Aj]
 congr 1
 funext new
 simp only[te]
 split
 ·generalize A4 s a=v
  cases v<;>try rfl
  ·simp only[qZ,room];split<;>rfl
  ·show M.get _ _=M.get _ _
   congr 1
   funext e;cases e<;>try rfl
   exact nh _
  ·simp only[qZ]
   congr 1
   funext e;cases e<;>try rfl
   rename_i o rows
   cases o<;>try rfl
   exact jL _
 ·rfl
def A1l (id:Id) (p:Path) (i off m st:Nat):E2→M V
 | .mem rows stt _=>Bg (D3 rows stt p i m st) fun row=>Bg (row[off]?) fun t=> .ret (JV id p i off stt t)
 | .dead=> .fail
theorem xV (id:Id) (p:Path) (i off m st:Nat) (rows:Rows) (stt:Nat) (fx:Bool):A1l id p i off m st (.mem rows stt fx)=Bg (D3 rows stt p i m st) fun row=>Bg (row[off]?) fun t=> .ret (JV id p i off stt t):=rfl
def A4j : V→M V
 | .ptr id p i off m st=>if p=[]then .get id (A1l id p i off m st)else .fail
 |_=> .fail
theorem xW (id:Id) (i off m st:Nat):A4j (.ptr id [] i off m st)= .get id (A1l id [] i off m st):=rfl
theorem A1m (x:CC):Aj s d (.ldr x)=A4j (A4 s x):=by
 simp only[Aj]
 generalize A4 s x=v
 cases v with
 |ptr id p i off m st=>
  simp only[A4j]
  split
  ·congr 1
   funext e
   cases e with
   |dead=>rfl
   |mem rows stt fx=>
    simp only[A1l]
    generalize D3 rows stt p i m st=o
    cases o with
    |none=>rfl
    |some row=>
     show(match row[off]? with|some t=>M.ret (JV id p i off stt t)|none=>M.fail)=Bg (row[off]?) _
     generalize row[off]? =o
     cases o<;>rfl
  ·rfl
 |_=>rfl
def sU (d q sz byt:Nat) (a x:V):M V:=match a,x with
 | .sub id p i c n st, .ref id2 n2=>if p≠[]∧id.1=q∧id2.1≠q then Gk (.ref id2 n2) (te d sz byt (.sub id p i c n st))else .fail
 |_,_=> .fail
theorem tf (d q sz byt:Nat) (a b:Nat) (y:Nat×Nat) (p:Path) (i c n st:Nat) (a2 b2 n2:Nat):sU d q sz byt (.sub (a,b) (y::p) i c n st) (.ref (a2,b2) n2)=if a=q then(if a2=q then .fail else Gk (.ref (a2,b2) n2) (te d sz byt (.sub (a,b) (y::p) i c n st)))else .fail:=by
 simp only[sU]
 by_cases h1:a=q<;>by_cases h2:a2=q<;>simp[h1,h2]
theorem xX (q sz byt:Nat) (a x:CC):Aj s d (.appn q sz byt a x)=sU d q sz byt (A4 s a) (A4 s x):=by
 simp only[Aj]
 generalize A4 s a=v
 generalize A4 s x=u
 cases v<;>cases u<;>try rfl
 simp only[sU]
 split
 ·congr 1
  funext new
  simp only[te,qZ]
  split
  ·congr 1
   funext t
   cases t with
   |sl o rows=>cases o with
    |true=>exact jL _
    |false=>rfl
   |_=>rfl
  ·rfl
 ·rfl
def tg (str:Bool) (x:V):M V:=match str,x with
 |true, .t (.v (.string st))=> .ret (.t (.v (.int .i64 (Ag st))))
 |false, .t (.sl _ rows)=> .ret (.t (.v (.int .i64 (AD rows))))
 |false, .nil=> .ret (.t (.v (.int .i64 0)))
 |false, .ref _ n=> .ret (.t (.v (.int .i64 n)))
 |false, .sub _ _ _ _ n _=> .ret (.t (.v (.int .i64 n)))
 |_,_=> .fail
theorem A4k (st:ByteArray):tg true (.t (.v (.string st)))= .ret (.t (.v (.int .i64 (Ag st)))):=rfl
theorem A4l (o:Bool) (rows:Rows):tg false (.t (.sl o rows))= .ret (.t (.v (.int .i64 (AD rows)))):=rfl
theorem xY : tg false .nil= .ret (.t (.v (.int .i64 0))):=rfl
theorem xZ (id:Id) (n:Nat):tg false (.ref id n)= .ret (.t (.v (.int .i64 n))):=rfl
theorem xa (id:Id) (p:Path) (i c n st:Nat):tg false (.sub id p i c n st)= .ret (.t (.v (.int .i64 n))):=rfl
theorem A1n (str:Bool) (x:CC):Aj s d (.len str x)=tg str (A4 s x):=by
 simp only[Aj]
 generalize A4 s x=v
 cases str<;>cases v<;>try rfl
def mmV (mx:Bool) (x y:V):M V:=match x,y with
 | .t (.v (.int k a)), .t (.v (.int _ b))=> .ret (.t (.v (.int k (if mx then A64 a b else A63 a b))))
 |_,_=> .fail
theorem A6E (k k':IntKind) (a b:Int):mmV true (.t (.v (.int k a))) (.t (.v (.int k' b)))= .ret (.t (.v (.int k (A64 a b)))):=rfl
theorem A6F (k k':IntKind) (a b:Int):mmV false (.t (.v (.int k a))) (.t (.v (.int k' b)))= .ret (.t (.v (.int k (A63 a b)))):=rfl
theorem A4m (mx:Bool) (x y:CC):Aj s d (.mm mx x y)=mmV mx (A4 s x) (A4 s y):=rfl
def A4n (i:Nat):V→M V
 | .tup vs=>Bg vs[i]? .ret
 |_=> .fail
theorem xc (i:Nat) (vs:List V):A4n i (.tup vs)=Bg vs[i]? .ret:=rfl
theorem A1o (x:CC) (i:Nat):Aj s d (.ext x i)=A4n i (A4 s x):=by
 simp only[Aj];generalize A4 s x=v;cases v<;>try rfl
 rename_i vs
 simp only[A4n]
 cases vs[i]?<;>rfl
theorem A1p (f:FuncId) (caps:List CC):Aj s d (.mkf f caps)= .ret (.fn f (caps.map (A4 s))):=rfl
def vwB (n:Nat) (l h:Int):Option Unit:=if(0≤l∧l≤h∧h≤n)∧0<n then some ()else none
def xe (x:V) (lo hi:Option V):M V:=match x with
 | .ref id n=>Bg (bnd lo 0) fun l=>Bg (bnd hi n) fun h=>Bg (vwB n l h) fun _=> .ret (.vw id l.toNat h.toNat n)
 |_=> .fail
theorem xf (id:Id) (n:Nat) (k:IntKind) (h:Int):xe (.ref id n) none (some (.t (.v (.int k h))))=Bg (vwB n 0 h) fun _=> .ret (.vw id 0 h.toNat n):=rfl
theorem xg (id:Id) (n:Nat) (k:IntKind) (l:Int):xe (.ref id n) (some (.t (.v (.int k l)))) none=Bg (vwB n l n) fun _=> .ret (.vw id l.toNat n n):=by
 simp only[xe,bnd,Bg,Int.toNat_natCast]
def A4o (x:V) (l h:Option Int→Option Int):M V:=match x with
 | .ref id n=>(match l (some 0),h (some n)with
   |some l,some h=>if(0≤l∧l≤h∧h≤n)∧0<n then .ret (.vw id l.toNat h.toNat n)else .fail
   |_,_=> .fail)
 |_=> .fail
theorem xj (x:CC) (lo hi:Option CC):Aj s d (.vws x lo hi)=A4o (A4 s x) (bnE s lo) (bnE s hi):=by
 simp only[Aj,A4o]
 cases lo<;>cases hi<;>rfl
theorem A1q (x:CC) (lo hi:Option CC):Aj s d (.vws x lo hi)=xe (A4 s x) (lo.map (A4 s)) (hi.map (A4 s)):=by
 rw[xj]
 generalize A4 s x=a
 cases a<;>try rfl
 rename_i id n
 simp only[xe,A4o]
 rw[show(some (0:Int))=some 0 from rfl,kI,kI]
 generalize bnd (lo.map (A4 s)) 0=l
 generalize bnd (hi.map (A4 s)) (n:Int)=h
 cases l<;>cases h<;>try rfl
 rename_i l h
 simp only[Bg,vwB]
 by_cases hc:(0≤l∧l≤h∧h≤(n:Int))∧0<n
 ·rw[if_pos hc,if_pos hc]
 ·rw[if_neg hc,if_neg hc]
def ni (n h l:Nat):Option Unit:=if h<l∧l≤n then some ()else none
def A1r (id:Id) (n h1 l2:Nat):E2→M V
 | .mem rows _ _=>if rows.length=n∧Th rows=true then .set id .dead (.ret (.t (.sl false (rows.take h1++rows.drop l2))))else .fail
 | .dead=> .fail
theorem xk (k:IntKind) (l:List Int):Th (l.map (rK k))=true:=by
 induction l with
 |nil=>rfl
 |cons x l ih=>simpa [Th,rK] using ih
theorem xm (id:Id) (n h1 l2:Nat) (k:IntKind) (l:List Int) (st:Nat) (fx:Bool):A1r id n h1 l2 (.mem (l.map (rK k)) st fx)=if l.length=n then .set id .dead (.ret (.t (.sl false ((l.take h1++l.drop l2).map (rK k)))))else .fail:=by
 simp only[A1r,xk,List.length_map,and_true,List.map_append,List.map_take,List.map_drop]
def A4p : V→V→M V
 | .vw id l1 h1 n, .vw id2 l2 h2 n2=>if(id2=id∧n2=n)∧l1=0∧h2=n then Bg (ni n h1 l2) fun _=> .get id (A1r id n h1 l2)else .fail
 |_,_=> .fail
theorem A1s (id:Id) (l1 h1 n:Nat) (id2:Id) (l2 h2 n2:Nat):A4p (.vw id l1 h1 n) (.vw id2 l2 h2 n2)=if(id2=id∧n2=n)∧l1=0∧h2=n then Bg (ni n h1 l2) fun _=> .get id (A1r id n h1 l2)else .fail:=rfl
theorem A1t (x y:CC):Aj s d (.cut x y)=A4p (A4 s x) (A4 s y):=by
 simp only[Aj]
 generalize A4 s x=a
 generalize A4 s y=b
 cases a<;>try rfl
 cases b<;>try rfl
 rename_i id l1 h1 n id2 l2 h2 n2
 simp only[A4p]
 by_cases c1:(id2=id∧n2=n)∧l1=0∧h2=n
 ·rw[if_pos c1]
  by_cases c2:h1<l2∧l2≤n
  ·rw[if_pos ⟨c1.1,c1.2.1,c2.1,c2.2,c1.2.2⟩]
   simp only[ni,if_pos c2,Bg]
   congr 1
   funext e
   cases e<;>rfl
  ·rw[if_neg (fun h=>c2 ⟨h.2.2.1,h.2.2.2.1⟩)]
   simp only[ni,if_neg c2,Bg]
 ·rw[if_neg (fun h=>c1 ⟨h.1,h.2.1,h.2.2.2.2⟩),if_neg c1]
def byE (l:List Int):E2:=if l.length=0 then .dead else .mem (l.map (rK .u8)) 0 false
theorem aO (x:ByteArray):Cb x=(TD x).map (rK .u8):=by
 simp only[Cb,TD,List.map_map];rfl
theorem UX (x:ByteArray):(TD x).length=x.size:=by simp[TD]
theorem A1u (x:ByteArray):mR x=byE (TD x):=by
 unfold mR byE
 rw[UX,aO]
theorem xn (k:IntKind) (l:List Int):AZ (l.map (rK k))=l.map (rK k):=by
 induction l with
 |nil=>rfl
 |cons x l ih=>simp[AZ,rK,Fm,frz]at ih ⊢;exact ih
theorem xp (r:R) (id:Id) (l:List Int):wc r id l.length (byE l)=some (.t (.sl false (l.map (rK .u8))),BL r id .dead):=by
 unfold byE
 by_cases h:l.length=0
 ·rw[if_pos h]
  have:l=[]:=List.eq_nil_of_length_eq_zero h
  subst this
  rfl
 ·rw[if_neg h]
  show(if(l.map (rK .u8)).length=l.length∧false=false then _ else _)=_
  rw[if_pos ⟨by simp,rfl⟩,xn]
theorem nj (l:List Int):CU (l.map (rK .u8))=some (l.map fun n=>UInt8.ofNat n.toNat):=by
 induction l with
 |nil=>rfl
 |cons x l ih=>simp[CU,rK]at ih ⊢;exact ih
def A4q (l:List Int):Option Unit:=if l.length=0 then none else some ()
theorem xq (FT:Env) (c:Cx) (d:Nat) (hs:List H) (F:List Fr) (s:List V) (r:R) (l:List Int):A0p FT c d hs F s r (byE l)=(A4q l).bind fun _=>hn FT c hs F s (BL r (d,0) (.mem (l.map (rK .u8)) 0 false)):=by
 unfold byE A4q
 by_cases h:l.length=0
 ·rw[if_pos h,if_pos h];rfl
 ·rw[if_neg h,if_neg h];rfl
def A4r (d:Nat):V→M V
 | .t (.v (.string x))=>Bg (ZB x) fun l=> .new [byE l] (.ret (.ref (d,0) l.length))
 |_=> .fail
theorem A4s (d:Nat) (x:ByteArray):A4r d (.t (.v (.string x)))=Bg (ZB x) fun l=> .new [byE l] (.ret (.ref (d,0) l.length)):=rfl
theorem A1v (x:CC):Aj s d (.cvo x)=A4r d (A4 s x):=by
 simp only[Aj]
 generalize A4 s x=a
 cases a<;>try rfl
 rename_i a;cases a<;>try rfl
 rename_i a;cases a<;>try rfl
 rename_i x
 simp only[A4r,ZB]
 split
 ·simp only[Bg,A1u,UX]
 ·rfl
def A1w (byt:Nat) (t:ByteArray):V→M V
 | .ref id n=> .get id (td id n 1 byt ((TD t).map (rK .u8)))
 |_=> .fail
theorem xr (byt:Nat) (t:ByteArray) (id:Id) (n:Nat):A1w byt t (.ref id n)= .get id (td id n 1 byt ((TD t).map (rK .u8))):=rfl
def A4t (byt:Nat) (a:V):V→M V
 | .t (.v (.string t))=>A1w byt t a
 |_=> .fail
theorem A4u (byt:Nat) (a:V) (t:ByteArray):A4t byt a (.t (.v (.string t)))=A1w byt t a:=rfl
theorem A1x (byt:Nat) (a x:CC):Aj s d (.aps byt a x)=A4t byt (A4 s a) (A4 s x):=by
 simp only[Aj]
 generalize A4 s x=v
 cases v<;>try rfl
 rename_i v;cases v<;>try rfl
 rename_i v;cases v<;>try rfl
 rename_i t
 simp only[A4t]
 generalize A4 s a=b
 cases b<;>try rfl
 rename_i id n
 simp only[A1w]
 congr 1
 funext e
 cases e with
 |dead=>rfl
 |mem rows st fx=>
  simp only[td,room,nh,List.length_map,UX,aO]
end
end TT
