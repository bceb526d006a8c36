import Derived.Test.YtkbbbbeagnfliaaGreatDoorTH1
set_option linter.unusedVariables false
set_option linter.unusedSimpArgs false
namespace TT
open Go
def wr (k:IntKind) (a:Int):Int:=k.wrap a
def Ac (a b:Int):Int:=IntKind.i64.wrap (a+b)
def AY (a b:Int):Int:=IntKind.i64.wrap (a-b)
def AAc (a b:Int):Int:=IntKind.i64.wrap (a*b)
def ADL (a:Int):Int:=IntKind.i64.wrap (0-a)
def A1S (a b:Int):Option Int:=if b=0 then none else some (IntKind.i64.wrap (a.tdiv b))
def A1T (a b:Int):Option Int:=if b=0 then none else some (a.tmod b)
def BV (a b:Int):Bool:=decide (a<b)
def TG (a b:Int):Bool:=decide (a≤b)
def IR (a b:Int):Bool:=decide (a>b)
def geI (a b:Int):Bool:=decide (a≥b)
def AX (a b:Int):Bool:=a==b
def neI (a b:Int):Bool:=a != b
def Af (x y:ByteArray):Option ByteArray:=if x.size+y.size≤9223372036854775807 then some (x++y)else none
def Bq (x y:ByteArray):Bool:=x.toList==y.toList
def IN (x y:ByteArray):Bool:= !(x.toList==y.toList)
def ltS (x y:ByteArray):Bool:=Op.bytesLess x.toList y.toList
def leS (x y:ByteArray):Bool:=Op.bytesLess x.toList y.toList||x.toList==y.toList
def gtS (x y:ByteArray):Bool:= !(Op.bytesLess x.toList y.toList||x.toList==y.toList)
def geS (x y:ByteArray):Bool:= !(Op.bytesLess x.toList y.toList)
def eqB (a b:Bool):Bool:=a==b
def neB (a b:Bool):Bool:= !(a==b)
def ACd (a b:Int):Int:=if b<a then b else a
def ACe (a b:Int):Int:=if a<b then b else a
def AL (x:ByteArray):Int:=x.size
def AF {α:Type} (l:List α):Int:=l.length
def ACf (n:Int):ByteArray:=Utf8.encode n
def AZ {α:Type} (l:List α) (i:Int):Option α:=if 0≤i then l[i.toNat]? else none
def atS (s:ByteArray) (i:Int):Option Int:=if h:0≤i∧i.toNat<s.size then some (s[i.toNat]'h.2).toNat else none
def PC (s:ByteArray) (l h:Int):Option ByteArray:=if 0≤l∧l≤h∧h≤s.size then some (s.extract l.toNat h.toNat)else none
def slL {α:Type} (s:List α) (l h:Int):Option (List α):=if 0≤l∧l≤h∧h≤s.length then some ((s.drop l.toNat).take (h.toNat-l.toNat))else none
def mkN (n:Int) (byt:Nat):Option Nat:=if 0≤n∧n.toNat*byt≤LIM∧0<byt then some n.toNat else none
def room (n byt:Nat):Option Unit:=if n*byt≤LIM∧0<byt then some ()else none
def rI (x:Int):List T:=[.v (.int .i64 x)]
def rK (k:IntKind) (x:Int):List T:=[.v (.int k x)]
def rS (x:ByteArray):List T:=[.v (.string x)]
def rB (x:Bool):List T:=[.v (.bool x)]
def rL {α:Type} (o:Bool) (f:α→List T) (l:List α):List T:=[.sl o (l.map f)]
def Ok {ρ:Type} (x:Option ρ) (e:ρ→Ay) (y:Option Ay):Prop:=∀r,x=some r→y=some (e r)
theorem yg {ρ:Type} {r:ρ} {e:ρ→Ay} {y:Option Ay} (h:y=some (e r)):Ok (some r) e y:=fun r' h'=>by cases h';exact h
theorem A7J {ρ:Type} {e:ρ→Ay} {y:Option Ay}:Ok none e y:=fun r' h'=>by cases h'
theorem ACg {ρ:Type} {b:Bool} {x x':Option ρ} {e:ρ→Ay} {y:Option Ay} (h1:b=true→Ok x e y) (h2:b=false→Ok x' e y):Ok (if b then x else x') e y:=by
 cases b
 ·exact h2 rfl
 ·exact h1 rfl
theorem Ep {α ρ:Type} {p:Option α} {f:α→Option ρ} {e:ρ→Ay} {y:Option Ay} (h:∀a,p=some a→Ok (f a) e y):Ok (p>>=f) e y:=fun r hr=>by
 obtain⟨a,h1,h2⟩:=Option.bind_eq_some_iff.1 hr
 exact h a h1 r h2
theorem D8 {β ρ:Type} {g:Option β} {f:β→Option ρ} {e:ρ→Ay} {e':β→Ay} {Y:Option Ay} {k:Ay→Option Ay} (hg:Ok g e' Y) (h:∀v,Ok (f v) e (k (e' v))):Ok (g>>=f) e (Y.bind k):=fun r hr=>by
 obtain⟨a,h1,h2⟩:=Option.bind_eq_some_iff.1 hr
 rw[hg a h1]
 exact h a r h2
section
def lV (k:IntKind) (a b:Int):Int:=Go.bits .and k a b
def orK (k:IntKind) (a b:Int):Int:=Go.bits .or k a b
def ACh (k:IntKind) (a b:Int):Int:=Go.bits .xor k a b
def A0d (k:IntKind) (a b:Int):Int:=Go.bits .andNot k a b
def A7K (k:IntKind) (a b:Int):Int:=k.wrap (a+b)
def A7L (k:IntKind) (a b:Int):Int:=k.wrap (a-b)
def A7M (k:IntKind) (a b:Int):Int:=k.wrap (a*b)
def AAd (k:IntKind) (a b:Int):Option Int:=if b=0 then none else some (k.wrap (a.tdiv b))
def ADM (k:IntKind) (a b:Int):Option Int:=if b=0 then none else some (k.wrap (a.tmod b))
def AAe (k:IntKind) (a b:Int):Option Int:=if b<0 then none else some (k.wrap (a*2^(min b.toNat k.bits)))
def A1U (k:IntKind) (a b:Int):Option Int:=if b<0 then none else some (a.fdiv (2^(min b.toNat k.bits)))
theorem A7N (k:IntKind) (a b:Int):Dh .and (.int k a) (.int k b)=some (.int k (lV k a b)):=by simp[Dh,TM,lV]
theorem AAf (k:IntKind) (a b:Int):Dh .or (.int k a) (.int k b)=some (.int k (orK k a b)):=by simp[Dh,TM,orK]
theorem A7O (k:IntKind) (a b:Int):Dh .xor (.int k a) (.int k b)=some (.int k (ACh k a b)):=by simp[Dh,TM,ACh]
theorem yh (k:IntKind) (a b:Int):Dh .andNot (.int k a) (.int k b)=some (.int k (A0d k a b)):=by simp[Dh,TM,A0d]
theorem A7P (k k':IntKind) (a b:Int):Dh .shl (.int k a) (.int k' b)=(AAe k a b).map (Value.int k):=by simp only[Dh,AAe];split<;>rfl
theorem A7Q (k k':IntKind) (a b:Int):Dh .shr (.int k a) (.int k' b)=(A1U k a b).map (Value.int k):=by simp only[Dh,A1U];split<;>rfl
theorem yi (a b:Int):Dh .add (.int .u8 a) (.int .u8 b)=some (.int .u8 (A7K .u8 a b)):=rfl
theorem yj (a b:Int):Dh .sub (.int .u8 a) (.int .u8 b)=some (.int .u8 (A7L .u8 a b)):=rfl
theorem yl (a b:Int):Dh .mul (.int .u8 a) (.int .u8 b)=some (.int .u8 (A7M .u8 a b)):=rfl
theorem wI (a b:Int):Dh .add (.int .i32 a) (.int .i32 b)=some (.int .i32 (A7K .i32 a b)):=rfl
theorem wJ (a b:Int):Dh .sub (.int .i32 a) (.int .i32 b)=some (.int .i32 (A7L .i32 a b)):=rfl
theorem wK (a b:Int):Dh .mul (.int .i32 a) (.int .i32 b)=some (.int .i32 (A7M .i32 a b)):=rfl
theorem wL (a b:Int):Dh .add (.int .u32 a) (.int .u32 b)=some (.int .u32 (A7K .u32 a b)):=rfl
theorem wM (a b:Int):Dh .sub (.int .u32 a) (.int .u32 b)=some (.int .u32 (A7L .u32 a b)):=rfl
theorem wN (a b:Int):Dh .mul (.int .u32 a) (.int .u32 b)=some (.int .u32 (A7M .u32 a b)):=rfl
theorem wO (a b:Int):Dh .add (.int .u64 a) (.int .u64 b)=some (.int .u64 (A7K .u64 a b)):=rfl
theorem wP (a b:Int):Dh .sub (.int .u64 a) (.int .u64 b)=some (.int .u64 (A7L .u64 a b)):=rfl
theorem wQ (a b:Int):Dh .mul (.int .u64 a) (.int .u64 b)=some (.int .u64 (A7M .u64 a b)):=rfl
theorem A7R (a b:Int):Dh .add (.int .i64 a) (.int .i64 b)=some (.int .i64 (Ac a b)):=rfl
theorem A7S (a b:Int):Dh .sub (.int .i64 a) (.int .i64 b)=some (.int .i64 (AY a b)):=rfl
theorem A7T (a b:Int):Dh .mul (.int .i64 a) (.int .i64 b)=some (.int .i64 (AAc a b)):=rfl
theorem A7U (a b:Int):Dh .quo (.int .i64 a) (.int .i64 b)=(A1S a b).map (Value.int .i64):=by simp only[Dh,TM,A1S,if_true];split<;>rfl
theorem wR (a b:Int):Dh .quo (.int .u64 a) (.int .u64 b)=(AAd .u64 a b).map (Value.int .u64):=by simp only[Dh,TM,AAd,if_true];split<;>rfl
theorem A7V (a b:Int):Dh .rem (.int .i64 a) (.int .i64 b)=(A1T a b).map (Value.int .i64):=by simp only[Dh,TM,A1T,if_true];split<;>rfl
theorem AAg (k:IntKind) (a b:Int):Dh .lss (.int k a) (.int k b)=some (.bool (BV a b)):=by simp only[Dh,TM,BV,if_true]
theorem AAh (k:IntKind) (a b:Int):Dh .leq (.int k a) (.int k b)=some (.bool (TG a b)):=by simp only[Dh,TM,TG,if_true]
theorem AAi (k:IntKind) (a b:Int):Dh .gtr (.int k a) (.int k b)=some (.bool (IR a b)):=by simp only[Dh,TM,IR,if_true]
theorem AAj (k:IntKind) (a b:Int):Dh .geq (.int k a) (.int k b)=some (.bool (geI a b)):=by simp only[Dh,TM,geI,if_true]
theorem AAk (k:IntKind) (a b:Int):Dh .eql (.int k a) (.int k b)=some (.bool (AX a b)):=by simp only[Dh,TM,AX,if_true]
theorem AAl (k:IntKind) (a b:Int):Dh .neq (.int k a) (.int k b)=some (.bool (neI a b)):=by simp only[Dh,TM,neI,if_true]
theorem A7W (a b:ByteArray):Dh .add (.string a) (.string b)=(Af a b).map Value.string:=by simp only[Dh,A2s,Af];split<;>rfl
theorem AAm (a b:ByteArray):Dh .eql (.string a) (.string b)=some (.bool (Bq a b)):=rfl
theorem AAn (a b:ByteArray):Dh .neq (.string a) (.string b)=some (.bool (IN a b)):=rfl
theorem AAo (a b:ByteArray):Dh .lss (.string a) (.string b)=some (.bool (ltS a b)):=rfl
theorem AAp (a b:ByteArray):Dh .leq (.string a) (.string b)=some (.bool (leS a b)):=rfl
theorem AAq (a b:ByteArray):Dh .gtr (.string a) (.string b)=some (.bool (gtS a b)):=rfl
theorem AAr (a b:ByteArray):Dh .geq (.string a) (.string b)=some (.bool (geS a b)):=rfl
end
def C8 {α β:Type}:Option α→(α→M β)→M β
 |some a,k=>k a
 |none,_=> .fail
section
variable (s:List V) (d:Nat)
theorem AAs (x:CY):BD s d (.mv x)= .ret (A6 s x):=rfl
def A3o (c a b:V):M V:=match c with
 | .t (.v (.bool t))=> .ret (if t then a else b)
 |_=> .fail
theorem A3p (c a b:CY):BD s d (.pick c a b)=A3o (A6 s c) (A6 s a) (A6 s b):=rfl
theorem A7X (a b:V):A3o (.t (.v (.bool true))) a b= .ret a:=rfl
theorem A7Y (a b:V):A3o (.t (.v (.bool false))) a b= .ret b:=rfl
theorem A1V (z:List T):BD s d (.alloc z)= .new [.mem [z] 0 false] (.ret (.ptr (d,0) [] 0 0 1 0)):=rfl
theorem A7Z (x:CY):BD s d (.box x)=Eg (cellsOf (A6 s x)) fun ts=>if ts.isEmpty then .fail else .new [.mem [ts] 0 false] (.ret (.ptr (d,0) [] 0 0 1 0)):=rfl
def ACi (d:Nat):V→M V
 | .agg cs=>if cs.isEmpty|| !cs.all V.one then .fail else .new [.mem [List.replicate cs.length .hole] 0 false] (.ret (.vb (d,0) 0 0 cs))
 |_=> .fail
theorem A3q (x:CY):BD s d (.vbox x)=ACi d (A6 s x):=by
 simp only[BD];generalize A6 s x=v;cases v<;>rfl
def A7a (id:Id) (n:Nat) (cs:List V):EQ→M V
 | .mem [row] stt fx=>if row.length=n then .set id (.mem [List.replicate n .hole] (stt+1) fx) (.ret (.vb id 0 (stt+1) cs))else .fail
 |_=> .fail
def A7b (n:Nat) (x y:V):M V:=match gi x,y with
 |some id, .agg cs=>if cs.length=n∧cs.all V.one=true then .get id (A7a id n cs)else .fail
 |_,_=> .fail
theorem A7c (n:Nat) (x y:CY):BD s d (.vst n x y)=A7b n (A6 s x) (A6 s y):=by
 simp only[BD]
 generalize A6 s x=v
 generalize A6 s y=u
 simp only[A7b]
 generalize gi v=q
 cases q with
 |none=>rfl
 |some id=>
  cases u<;>try rfl
def zV : T→V
 | .sl true []=> .nil
 |c=> .t c
theorem A1W (z:List T) (parts:List (Nat×Nat×CY)):BD s d (.build z parts)=C8 (bld s (z.map zV) parts) fun cs=> .ret (.agg cs):=by
 have e:BD s d (.build z parts)=match bld s (z.map zV) parts with|some cs=> .ret (.agg cs)|none=> .fail:=rfl
 rw[e]
 cases bld s (z.map zV) parts<;>rfl
def ACj (d sz:Nat) (rs:Rows):M V:=if rs.all fun r=>r.length==sz then .new [.mem rs 0 false] (.ret (.ref (d,0) rs.length))else .fail
theorem A7d (sz:Nat) (parts:List CY):BD s d (.bsl sz parts)=DS (parts.map fun q=>cellsOf (A6 s q)) (ACj d sz):=rfl
def A9n (d sz:Nat) (rs:Rows):M V:=if rs.all fun r=>r.length==sz then .new [.mem rs 0 false] (.set (d,0) .dead (.ret (.t (.sl false (Aw rs)))))else .fail
theorem A3r (sz:Nat) (parts:List CY):BD s d (.bslz sz parts)=DS (parts.map fun q=>cellsOf (A6 s q)) (A9n d sz):=rfl
def iX (ag:Bool) (vs:List V):M V:=if ag then .ret (.agg vs)else match vs with| [v]=> .ret v|_=> .fail
theorem A7e (vs:List V):iX true vs= .ret (.agg vs):=rfl
theorem A3s (v:V):iX false [v]= .ret v:=rfl
def ldE (n:Nat) (ag:Bool) (id:Id) (p:B5) (i off m st:Nat):EQ→M V
 | .mem rows stt _=>C8 (DN rows stt p i m st) fun row=>if off+n≤row.length then iX ag (PJ id p i off stt ((row.drop off).take n))else .fail
 | .dead=> .fail
def ldX (n:Nat) (ag:Bool) (off st:Nat) (cs:List V):EQ→M V
 | .mem rows stt _=>if(st=stt∧rows.length=1)∧off+n≤cs.length then iX ag ((cs.drop off).take n)else .fail
 | .dead=> .fail
def ldV (n:Nat) (ag:Bool):V→M V
 | .ptr id p i off m st=> .get id (ldE n ag id p i off m st)
 | .vb id off st cs=> .get id (ldX n ag off st cs)
 | .pp cs=>if n≤cs.length then iX ag ((cs.take n).map tV)else .fail
 |_=> .fail
theorem AAt (n:Nat) (ag:Bool) (x:CY):BD s d (.ld n ag x)=ldV n ag (A6 s x):=by
 simp only[BD]
 generalize A6 s x=v
 cases v<;>try rfl
 ·simp only[ldV]
  congr 1
  funext e
  cases e<;>try rfl
  simp only[ldE]
  generalize DN _ _ _ _ _ _=o
  cases o<;>rfl
 ·simp only[ldV]
  congr 1
  funext e
  cases e<;>rfl
def stE (id:Id) (p:B5) (i off m st n:Nat) (ts:List T):EQ→M V
 | .mem rows stt fx=>C8 (DN rows stt p i m st) fun row=>if ts.length=n∧off+n≤row.length then .set id (.mem (IQ rows p i off ts) (stt+1) fx) (.ret .dead)else .fail
 | .dead=> .fail
def stV (n:Nat) (x y:V):M V:=match x with
 | .ptr id p i off m st=>Eg (cellsOf y) fun ts=> .get id (stE id p i off m st n ts)
 |_=> .fail
theorem A7f (n:Nat) (id:Id) (p:B5) (i off m st:Nat) (y:V):stV n (.ptr id p i off m st) y=Eg (cellsOf y) fun ts=> .get id (stE id p i off m st n ts):=rfl
theorem AAu (n:Nat) (x y:CY):BD s d (.st n x y)=stV n (A6 s x) (A6 s y):=by
 simp only[BD]
 generalize A6 s x=v
 cases v<;>try rfl
 simp only[stV]
 congr 1
 funext ts
 congr 1
 funext e
 cases e<;>try rfl
 simp only[stE]
 generalize DN _ _ _ _ _ _=o
 cases o<;>rfl
def A7g (id:Id) (p:B5) (i off m st:Nat) (ts:List T):EQ→M V
 | .mem rows stt fx=>C8 (DN rows stt p i m st) fun row=>if ts.length=1∧off+1≤row.length then .set id (.mem (IQ rows p i off ts) (stt+1) fx) (.ret (kf id p i off (stt+1) ts))else .fail
 | .dead=> .fail
theorem A3t (id:Id) (p:B5) (i off m st:Nat) (ts:List T) (rows:Rows) (stt:Nat) (fx:Bool):A7g id p i off m st ts (.mem rows stt fx)=C8 (DN rows stt p i m st) fun row=>if ts.length=1∧off+1≤row.length then .set id (.mem (IQ rows p i off ts) (stt+1) fx) (.ret (kf id p i off (stt+1) ts))else .fail:=rfl
def AAv (x y:V):M V:=match x,y with
 | .ptr id p i off m st, .ref id2 n2=>Eg [.ref id2 n2] fun ts=> .get id (A7g id p i off m st ts)
 |_,_=> .fail
theorem A3u (id:Id) (p:B5) (i off m st:Nat) (id2:Id) (n2:Nat):AAv (.ptr id p i off m st) (.ref id2 n2)=Eg [.ref id2 n2] fun ts=> .get id (A7g id p i off m st ts):=rfl
theorem A7h (id:Id) (p:B5) (i off st:Nat) (rs:Rows):kf id p i off st [.sl true rs]= .sub id p i off rs.length st:=rfl
theorem A7i (x y:CY):BD s d (.stk x y)=AAv (A6 s x) (A6 s y):=by
 simp only[BD]
 generalize A6 s x=v
 generalize A6 s y=u
 cases v<;>cases u<;>try rfl
 simp only[AAv]
 congr 1
 funext ts
 congr 1
 funext e
 cases e with
 |dead=>rfl
 |mem rows stt fx=>
  simp only[A7g]
  cases DN rows stt _ _ _ _<;>rfl
theorem ACk : zV (.sl false [])= .t (.sl false []):=rfl
def A0e : V→M V
 | .ptr a b c d e f=> .ret (.ptr a b c d e f)
 | .vb a b c d=> .ret (.vb a b c d)
 | .pp cs=> .ret (.pp cs)
 | .fn f caps=> .ret (.fn f caps)
 |_=> .fail
theorem A3v (x:CY):BD s d (.nilc x)=A0e (A6 s x):=by
 simp only[BD];generalize A6 s x=v;cases v<;>rfl
def AAw (op:BinOp) (x y:V):M V:=match x,y with
 | .t (.v a), .t (.v b)=>C8 (Dh op a b) fun r=> .ret (.t (.v r))
 |_,_=> .fail
theorem AAx (op:BinOp) (a b:Value):AAw op (.t (.v a)) (.t (.v b))=C8 (Dh op a b) fun r=> .ret (.t (.v r)):=rfl
theorem A7j (op:BinOp) (x y:CY):BD s d (.bin op x y)=AAw op (A6 s x) (A6 s y):=by
 simp only[BD]
 generalize A6 s x=a
 generalize A6 s y=b
 cases a<;>try rfl
 rename_i a;cases a<;>try rfl
 cases b<;>try rfl
 rename_i b;cases b<;>try rfl
 rename_i a b
 simp only[AAw]
 cases Dh op a b<;>rfl
def AAy (ne:Bool) (ks:List FK) (x y:V):M V:=match x,y with
 | .agg as, .agg bs=>C8 (fJ ks as bs) fun r=> .ret (.t (.v (.bool (if ne then !r else r))))
 |_,_=> .fail
theorem A3w (ne:Bool) (ks:List FK) (as bs:List V):AAy ne ks (.agg as) (.agg bs)=C8 (fJ ks as bs) fun r=> .ret (.t (.v (.bool (if ne then !r else r)))):=rfl
theorem A7k (ne:Bool) (ks:List FK) (x y:CY):BD s d (.eqs ne ks x y)=AAy ne ks (A6 s x) (A6 s y):=by
 simp only[BD]
 generalize A6 s x=a
 generalize A6 s y=b
 cases a<;>try rfl
 cases b<;>try rfl
 rename_i a b
 simp only[AAy]
 cases fJ ks a b<;>rfl
def AAz (ne:Bool) (x y:V):M V:=match x,y with
 | .t (.v (.bool a)), .t (.v (.bool b))=> .ret (.t (.v (.bool (if ne then neB a b else eqB a b))))
 |_,_=> .fail
theorem AB0 (a b:Bool):AAz false (.t (.v (.bool a))) (.t (.v (.bool b)))= .ret (.t (.v (.bool (eqB a b)))):=rfl
theorem AB1 (a b:Bool):AAz true (.t (.v (.bool a))) (.t (.v (.bool b)))= .ret (.t (.v (.bool (neB a b)))):=rfl
theorem A7l (ne:Bool) (x y:CY):BD s d (.beq ne x y)=AAz ne (A6 s x) (A6 s y):=rfl
def A7m (ne:Bool):V→M V
 | .nil=> .ret (.t (.v (.bool (!ne))))
 | .t (.v (.slice q _ _))=> .ret (.t (.v (.bool (if ne then !q.isNone else q.isNone))))
 | .t (.sl _ (_::_))=> .ret (.t (.v (.bool ne)))
 |_=> .fail
theorem A3x (ne:Bool):A7m ne .nil= .ret (.t (.v (.bool (!ne)))):=rfl
theorem AB2 (ne:Bool) (q:Option Addr) (n c:Nat):A7m ne (.t (.v (.slice q n c)))= .ret (.t (.v (.bool (if ne then !q.isNone else q.isNone)))):=rfl
theorem AB3 (ne o:Bool) (r:List T) (rs:Rows):A7m ne (.t (.sl o (r::rs)))= .ret (.t (.v (.bool ne))):=rfl
theorem A7n (ne:Bool) (x:CY):BD s d (.eqn ne x)=A7m ne (A6 s x):=by
 simp only[BD]
 generalize A6 s x=v
 cases v<;>try rfl
def unV (op:UnOp) (x:V):M V:=match op,x with
 | .not, .t (.v (.bool b))=> .ret (.t (.v (.bool (!b))))
 | .neg, .t (.v (.int k n))=> .ret (.t (.v (.int k (k.wrap (0-n)))))
 |_,_=> .fail
theorem A7o (b:Bool):unV .not (.t (.v (.bool b)))= .ret (.t (.v (.bool (!b)))):=rfl
theorem A7p (n:Int):unV .neg (.t (.v (.int .i64 n)))= .ret (.t (.v (.int .i64 (ADL n)))):=rfl
def ACl (ne:Bool):V→M V
 | .t (.v .nilIface)=> .ret (.t (.v (.bool (!ne))))
 |_=> .fail
theorem A3y (ne:Bool):ACl ne (.t (.v .nilIface))= .ret (.t (.v (.bool (!ne)))):=rfl
theorem A7q (ne:Bool) (x:CY):BD s d (.eqi ne x)=ACl ne (A6 s x):=rfl
theorem AB4 (op:UnOp) (x:CY):BD s d (.un op x)=unV op (A6 s x):=rfl
def cvV (c:Cv) (x:V):M V:=match c with
 | .str=>(match x with
  | .sub .. => .fail
  |x=>Fn x fun rows=>C8 (Cp rows) fun l=> .ret (.t (.v (.string ⟨l.toArray⟩))))
 |c=>C8 (gh c x) .ret
theorem AB5 (k k':IntKind) (n:Int):cvV (.int k') (.t (.v (.int k n)))= .ret (.t (.v (.int k' (wr k' n)))):=rfl
theorem A7r (k:IntKind) (n:Int):cvV .rune (.t (.v (.int k n)))= .ret (.t (.v (.string (ACf n)))):=rfl
def W9 (s:ByteArray):List Int:=s.data.toList.map fun b=>(b.toNat:Int)
def fU (s:ByteArray):Option (List Int):=if s.size≤maxLen then some (W9 s)else none
theorem A3z (x:ByteArray):cvV .bytes (.t (.v (.string x)))=C8 (fU x) fun l=> .ret (.t (.sl false (l.map (rK .u8)))):=by
 simp only[cvV,gh,fU]
 split
 ·simp only[C8,D4,W9,List.map_map];rfl
 ·rfl
theorem A7s (x:ByteArray):cvV .same (.t (.v (.string x)))= .ret (.t (.v (.string x))):=rfl
def A7t (rows:Rows):M V:=C8 (Cp rows) fun l=> .ret (.t (.v (.string ⟨l.toArray⟩)))
theorem A7u (rows:Rows):A7t rows=C8 (Cp rows) fun l=> .ret (.t (.v (.string ⟨l.toArray⟩))):=rfl
theorem A40 (o:Bool) (rows:Rows):cvV .str (.t (.sl o rows))=A7t rows:=rfl
theorem ym : cvV .str .nil=A7t []:=rfl
theorem yp (id:Id) (n:Nat):cvV .str (.ref id n)=Fn (.ref id n) A7t:=rfl
theorem A41 (c:Cv) (x:CY):BD s d (.conv c x)=cvV c (A6 s x):=by
 cases c<;>simp only[BD,cvV]
 case str=>
  generalize A6 s x=v
  cases v<;>try rfl
  ·rename_i c;cases c<;>try rfl
   simp only[Fn]
   cases Cp _<;>rfl
  ·show Fn _ _=Fn _ _
   congr 1;funext rows;cases Cp rows<;>rfl
 all_goals (cases gh _ (A6 s x)<;>rfl)
def AB6 (d:Nat) (z:List T) (byt:Nat):V→M V
 | .t (.v (.int _ n))=>C8 (mkN n byt) fun m=> .new [.mem (List.replicate m z) 0 false] (.ret (.ref (d,0) m))
 |_=> .fail
theorem A7v (z:List T) (byt:Nat) (x:CY):BD s d (.mks z byt x)=AB6 d z byt (A6 s x):=by
 simp only[BD]
 generalize A6 s x=v
 cases v<;>try rfl
 rename_i c;cases c<;>try rfl
 rename_i x;cases x<;>try rfl
 simp only[AB6,mkN]
 split<;>rfl
def iaK (sz:Nat) (id:Id) (p:B5) (n m st:Nat) (row:List T):M V:=if row.length=sz then .ret (.ptr id p n 0 m st)else .fail
def iaS (sz:Nat) (id:Id) (p:B5) (n:Int) (m st:Nat) (rows:Rows):M V:=if rows.length=m then C8 (AZ rows n) (iaK sz id p n.toNat m st)else .fail
def iaE (sz:Nat) (id:Id) (m:Nat) (n:Int):EQ→M V
 | .mem rows _ _=>iaS sz id [] n m 0 rows
 | .dead=> .fail
def iaC (sz:Nat) (id:Id) (p:B5) (j c:Nat) (n:Int) (m st:Nat):EQ→M V
 | .mem rows stt _=>if st=stt then C8 (C6 rows p j c) fun
   | .sl true rs=>iaS sz id (p++[(j,c)]) n m st rs
   |_=> .fail
  else .fail
 | .dead=> .fail
def iaP (sz:Nat) (row:List T):M V:=if row.length=sz then .ret (.pp row)else .fail
def iaV (sz:Nat) (x i:V):M V:=match i with
 | .t (.v (.int _ n))=>if 0≤n then(match x with
  | .t (.sl _ rows)=>C8 (AZ rows n) (iaP sz)
  | .ref id m=> .get id (iaE sz id m n)
  | .sub id p j c m st=> .get id (iaC sz id p j c n m st)
  |_=> .fail)else .fail
 |_=> .fail
theorem AB7 (sz:Nat) (o:Bool) (rows:Rows) (k:IntKind) (n:Int):iaV sz (.t (.sl o rows)) (.t (.v (.int k n)))=if 0≤n then C8 (AZ rows n) (iaP sz)else .fail:=rfl
theorem A7w (sz:Nat) (id:Id) (m:Nat) (k:IntKind) (n:Int):iaV sz (.ref id m) (.t (.v (.int k n)))=if 0≤n then .get id (iaE sz id m n)else .fail:=rfl
theorem A7x (sz:Nat) (id:Id) (p:B5) (j c m st:Nat) (k:IntKind) (n:Int):iaV sz (.sub id p j c m st) (.t (.v (.int k n)))=if 0≤n then .get id (iaC sz id p j c n m st)else .fail:=rfl
theorem Xj {α:Type} {l:List α} {n:Int} (h:0≤n):AZ l n=l[n.toNat]? :=if_pos h
theorem AB8 (sz:Nat) (id:Id) (p:B5) (n m st:Nat) (o:Option (List T)):(match o with|some row=>if row.length=sz then M.ret (V.ptr id p n 0 m st)else .fail|none=> .fail)=C8 o (iaK sz id p n m st):=by cases o<;>rfl
theorem AB9 (sz:Nat) (x i:CY):BD s d (.ia sz x i)=iaV sz (A6 s x) (A6 s i):=by
 simp only[BD]
 generalize A6 s x=a
 generalize A6 s i=b
 cases b<;>try rfl
 rename_i b;cases b<;>try rfl
 rename_i b;cases b<;>try rfl
 rename_i k n
 simp only[iaV]
 split
 ·rename_i h0
  cases a<;>try rfl
  ·rename_i a;cases a<;>try rfl
   rename_i rows
   simp only[Xj h0,C8]
   cases rows[n.toNat]?<;>rfl
  ·show M.get _ _=M.get _ _
   congr 1
   funext e;cases e<;>try rfl
   simp only[iaE,iaS,Xj h0]
   rw[←AB8];rfl
  ·show M.get _ _=M.get _ _
   congr 1
   funext e;cases e<;>try rfl
   simp only[iaC,iaS,Xj h0]
   split
   ·cases C6 _ _ _ _ with
    |none=>rfl
    |some t=>
     cases t<;>try rfl
     rename_i o rs
     cases o<;>try rfl
     simp only[C8]
     split
     ·cases rs[n.toNat]?<;>rfl
     ·rfl
   ·rfl
 ·rfl
def faV (off:Nat):V→M V
 | .ptr id p i o n st=> .ret (.ptr id p i (o+off) n st)
 | .vb id o st cs=> .ret (.vb id (o+off) st cs)
 | .pp cs=> .ret (.pp (cs.drop off))
 |_=> .fail
theorem A7y (off:Nat) (id:Id) (p:B5) (i o n st:Nat):faV off (.ptr id p i o n st)= .ret (.ptr id p i (o+off) n st):=rfl
theorem ABA (off:Nat) (cs:List T):faV off (.pp cs)= .ret (.pp (cs.drop off)):=rfl
theorem ABB (off:Nat) (x:CY):BD s d (.fa off x)=faV off (A6 s x):=by
 simp only[BD];generalize A6 s x=v;cases v<;>rfl
def ACm (off n:Nat) (ag:Bool):V→M V
 | .agg cs=>if off+n≤cs.length then iX ag ((cs.drop off).take n)else .fail
 |_=> .fail
theorem A42 (off n:Nat) (ag:Bool) (cs:List V):ACm off n ag (.agg cs)=if off+n≤cs.length then iX ag ((cs.drop off).take n)else .fail:=rfl
theorem A7z (off n:Nat) (ag:Bool) (x:CY):BD s d (.fld off n ag x)=ACm off n ag (A6 s x):=by
 simp only[BD];generalize A6 s x=v;cases v<;>rfl
def ixV (x i:V):M V:=match x,i with
 | .t (.v (.string st)), .t (.v (.int _ n))=>C8 (atS st n) fun b=> .ret (.t (.v (.int .u8 b)))
 |_,_=> .fail
theorem ACn (st:ByteArray) (k:IntKind) (n:Int):ixV (.t (.v (.string st))) (.t (.v (.int k n)))=C8 (atS st n) fun b=> .ret (.t (.v (.int .u8 b))):=rfl
theorem ABC (x i:CY):BD s d (.ix x i)=ixV (A6 s x) (A6 s i):=by
 simp only[BD]
 generalize A6 s x=a
 generalize A6 s i=b
 cases a<;>try rfl
 rename_i a;cases a<;>try rfl
 rename_i a;cases a<;>try rfl
 cases b<;>try rfl
 rename_i b;cases b<;>try rfl
 rename_i b;cases b<;>try rfl
 simp only[ixV,atS]
 split<;>rfl
def ACo (sz len:Nat) (ag:Bool) (x i:V):M V:=match x,i with
 | .agg cs, .t (.v (.int _ n))=>if 0≤n∧n<len∧cs.length=len*sz then iX ag ((cs.drop (n.toNat*sz)).take sz)else .fail
 |_,_=> .fail
theorem A43 (sz len:Nat) (ag:Bool) (cs:List V) (k:IntKind) (n:Int):ACo sz len ag (.agg cs) (.t (.v (.int k n)))=if 0≤n∧n<len∧cs.length=len*sz then iX ag ((cs.drop (n.toNat*sz)).take sz)else .fail:=rfl
theorem A80 (sz len:Nat) (ag:Bool) (x i:CY):BD s d (.ixa sz len ag x i)=ACo sz len ag (A6 s x) (A6 s i):=by
 simp only[BD]
 generalize A6 s x=a
 generalize A6 s i=b
 cases a<;>rfl
def bnd (o:Option V) (e:Int):Option Int:=match o with
 |none=>some e
 |some (.t (.v (.int _ n)))=>some n
 |_=>none
theorem A44 (e:Int):bnd none e=some e:=rfl
theorem A45 (e:Int) (k:IntKind) (n:Int):bnd (some (.t (.v (.int k n)))) e=some n:=rfl
def A46 (sz:Nat) (x:V) (lo hi:Option V):M V:=match x with
 | .t (.v (.string st))=>C8 (bnd lo 0) fun l=>C8 (bnd hi (AL st)) fun h=>if sz=0 then C8 (PC st l h) fun z=> .ret (.t (.v (.string z)))else .fail
 | .t (.sl _ rows)=>C8 (bnd lo 0) fun l=>C8 (bnd hi (AF rows)) fun h=>if 0<sz∧(rows.all fun r=>r.length==sz)then C8 (slL rows l h) fun z=> .ret (.t (.sl false z))else .fail
 |_=> .fail
theorem ABD (sz:Nat) (st:ByteArray) (lo hi:Option V):A46 sz (.t (.v (.string st))) lo hi=C8 (bnd lo 0) fun l=>C8 (bnd hi (AL st)) fun h=>if sz=0 then C8 (PC st l h) fun z=> .ret (.t (.v (.string z)))else .fail:=rfl
theorem ABE (sz:Nat) (o:Bool) (rows:Rows) (lo hi:Option V):A46 sz (.t (.sl o rows)) lo hi=C8 (bnd lo 0) fun l=>C8 (bnd hi (AF rows)) fun h=>if 0<sz∧(rows.all fun r=>r.length==sz)then C8 (slL rows l h) fun z=> .ret (.t (.sl false z))else .fail:=rfl
def A81 (sz:Nat) (x:V) (l h:Option Int→Option Int):M V:=match x with
 | .t (.v (.string st))=>(match l (some 0),h (some st.size)with
   |some l,some h=>if(0≤l∧l≤h∧h≤st.size)∧sz=0 then .ret (.t (.v (.string (st.extract l.toNat h.toNat))))else .fail
   |_,_=> .fail)
 | .t (.sl _ rows)=>(match l (some 0),h (some rows.length)with
   |some l,some h=>if(0≤l∧l≤h∧h≤rows.length)∧0<sz∧(rows.all fun r=>r.length==sz)then .ret (.t (.sl false ((rows.drop l.toNat).take (h.toNat-l.toNat))))else .fail
   |_,_=> .fail)
 |_=> .fail
def bnE (s:List V) (o:Option CY) (e:Option Int):Option Int:=match o with
 |none=>e
 |some q=>match A6 s q with| .t (.v (.int _ n))=>some n|_=>none
theorem A47 (sz:Nat) (x:CY) (lo hi:Option CY):BD s d (.slc sz x lo hi)=A81 sz (A6 s x) (bnE s lo) (bnE s hi):=by
 simp only[BD,A81]
 cases lo<;>cases hi<;>rfl
theorem sy (o:Option CY) (e:Int):bnE s o (some e)=bnd (o.map (A6 s)) e:=by
 cases o with
 |none=>rfl
 |some q=>
  simp only[Option.map_some,bnE]
  generalize A6 s q=v
  cases v<;>try rfl
  rename_i v;cases v<;>try rfl
  rename_i v;cases v<;>rfl
theorem A0f {A C:Prop} [Decidable A] [Decidable C] {α:Type} (k:α→M V) (x:α):(if A∧C then k x else M.fail)=if C then C8 (if A then some x else none) k else M.fail:=by
 by_cases A<;>by_cases C<;>simp_all[C8]
theorem A82 (sz:Nat) (x:CY) (lo hi:Option CY):BD s d (.slc sz x lo hi)=A46 sz (A6 s x) (lo.map (A6 s)) (hi.map (A6 s)):=by
 rw[A47]
 generalize A6 s x=a
 cases a<;>try rfl
 rename_i a;cases a<;>try rfl
 ·rename_i a;cases a<;>try rfl
  rename_i st
  simp only[A46,A81,AL,sy]
  generalize bnd (lo.map (A6 s)) 0=l
  generalize bnd (hi.map (A6 s)) (st.size:Int)=h
  cases l<;>cases h<;>try rfl
  exact A0f (fun z=> .ret (.t (.v (.string z)))) _
 ·rename_i o rows
  simp only[A46,A81,AF,sy]
  generalize bnd (lo.map (A6 s)) 0=l
  generalize bnd (hi.map (A6 s)) (rows.length:Int)=h
  cases l<;>cases h<;>try rfl
  exact A0f (fun z=> .ret (.t (.sl false z))) _
theorem A48 (f:FuncId) (md:List Md) (own:List Bool) (args:List CY):BD s d (.call f md own args)=XW d f md own (args.map (A6 s)):=rfl
def cvv (d:Nat) (md:List Md) (own:List Bool) (args:List V):V→M V
 | .fn f caps=>XW d f (md++(caps.map fun _=>Md.ref)) own (args++caps)
 |_=> .fail
theorem A1X (x:CY) (md:List Md) (own:List Bool) (args:List CY):BD s d (.callv x md own args)=cvv d md own (args.map (A6 s)) (A6 s x):=by
 simp only[BD];generalize A6 s x=v;cases v<;>rfl
def A1Y (id:Id) (n sz byt:Nat) (new:Rows):EQ→M V
 | .mem rows st _=>if rows.length=n∧(rows.all fun r=>r.length==sz)then C8 (room (n+new.length) byt) fun _=> .set id (.mem (rows++new) st false) (.ret (.ref id (n+new.length)))else .fail
 | .dead=> .fail
def ABF (d sz byt:Nat) (new:Rows):T→M V
 | .sl true rows=>if(rows.all fun r=>r.length==sz)then C8 (room (rows.length+new.length) byt) fun _=> .new [.mem (rows++new) 0 false] (.ret (.ref (d,0) (rows.length+new.length)))else .fail
 |_=> .fail
def yq (d sz byt:Nat) (new:Rows):V→M V
 | .nil=>C8 (room new.length byt) fun _=> .new [.mem new 0 false] (.ret (.ref (d,0) new.length))
 | .ref id n=> .get id (A1Y id n sz byt new)
 | .sub id p i c n st=>take (.sub id p i c n st) (ABF d sz byt new)
 |_=> .fail
def A1Z (d sz byt:Nat) (a:V) (new:Rows):M V:=if(new.all fun r=>r.length==sz)then yq d sz byt new a else .fail
theorem A49 (d sz byt:Nat) (new:Rows):yq d sz byt new .nil=C8 (room new.length byt) fun _=> .new [.mem new 0 false] (.ret (.ref (d,0) new.length)):=rfl
theorem A4A (d sz byt:Nat) (new:Rows) (id:Id) (n:Nat):yq d sz byt new (.ref id n)= .get id (A1Y id n sz byt new):=rfl
theorem A4B (d sz byt:Nat) (new:Rows) (id:Id) (p:B5) (i c n st:Nat):yq d sz byt new (.sub id p i c n st)=take (.sub id p i c n st) (ABF d sz byt new):=rfl
theorem A4C (id:Id) (n sz byt:Nat) (new rows:Rows) (st:Nat) (fx:Bool):A1Y id n sz byt new (.mem rows st fx)=if rows.length=n∧(rows.all fun r=>r.length==sz)then C8 (room (n+new.length) byt) fun _=> .set id (.mem (rows++new) st false) (.ret (.ref id (n+new.length)))else .fail:=rfl
theorem A83 (d sz byt:Nat) (new rows:Rows):ABF d sz byt new (.sl true rows)=if(rows.all fun r=>r.length==sz)then C8 (room (rows.length+new.length) byt) fun _=> .new [.mem (rows++new) 0 false] (.ret (.ref (d,0) (rows.length+new.length)))else .fail:=rfl
theorem wS {A B C D:Prop} [Decidable A] [Decidable B] [Decidable C] [Decidable D] (X:M V):(if A∧B∧C∧D then X else M.fail)=if A∧D then C8 (if B∧C then some ()else none) (fun _=>X)else M.fail:=by
 by_cases A<;>by_cases B<;>by_cases C<;>by_cases D<;>simp_all[C8]
theorem ra {B C D:Prop} [Decidable B] [Decidable C] [Decidable D] (X:M V):(if B∧C∧D then X else M.fail)=if D then C8 (if B∧C then some ()else none) (fun _=>X)else M.fail:=by
 by_cases B<;>by_cases C<;>by_cases D<;>simp_all[C8]
theorem A84 (sz byt:Nat) (a x:CY):BD s d (.app sz byt a x)=HM (A6 s x) (A1Z d sz byt (A6 s a)):=by
 simp only[BD]
 congr 1
 funext new
 simp only[A1Z]
 split
 ·generalize A6 s a=v
  cases v<;>try rfl
  ·simp only[yq,room];split<;>rfl
  ·show M.get _ _=M.get _ _
   congr 1
   funext e;cases e<;>try rfl
   exact wS _
  ·simp only[yq]
   congr 1
   funext e;cases e<;>try rfl
   rename_i o rows
   cases o<;>try rfl
   exact ra _
 ·rfl
def A85 (id:Id) (p:B5) (i off m st:Nat):EQ→M V
 | .mem rows stt _=>C8 (DN rows stt p i m st) fun row=>C8 (row[off]?) fun t=> .ret (KC id p i off stt t)
 | .dead=> .fail
theorem A4D (id:Id) (p:B5) (i off m st:Nat) (rows:Rows) (stt:Nat) (fx:Bool):A85 id p i off m st (.mem rows stt fx)=C8 (DN rows stt p i m st) fun row=>C8 (row[off]?) fun t=> .ret (KC id p i off stt t):=rfl
def ABG : V→M V
 | .ptr id p i off m st=>if p=[]then .get id (A85 id p i off m st)else .fail
 |_=> .fail
theorem A4E (id:Id) (i off m st:Nat):ABG (.ptr id [] i off m st)= .get id (A85 id [] i off m st):=rfl
theorem A86 (x:CY):BD s d (.ldr x)=ABG (A6 s x):=by
 simp only[BD]
 generalize A6 s x=v
 cases v with
 |ptr id p i off m st=>
  simp only[ABG]
  split
  ·congr 1
   funext e
   cases e with
   |dead=>rfl
   |mem rows stt fx=>
    simp only[A85]
    generalize DN rows stt p i m st=o
    cases o with
    |none=>rfl
    |some row=>
     show(match row[off]? with|some t=>M.ret (KC id p i off stt t)|none=>M.fail)=C8 (row[off]?) _
     generalize row[off]? =o
     cases o<;>rfl
  ·rfl
 |_=>rfl
def A0g (d q sz byt:Nat) (a x:V):M V:=match a,x with
 | .sub id p i c n st, .ref id2 n2=>if p≠[]∧id.1=q∧id2.1≠q then HM (.ref id2 n2) (A1Z d sz byt (.sub id p i c n st))else .fail
 |_,_=> .fail
theorem A1a (d q sz byt a b:Nat) (y:Nat×Nat) (p:B5) (i c n st a2 b2 n2:Nat):A0g d q sz byt (.sub (a,b) (y::p) i c n st) (.ref (a2,b2) n2)=if a=q then(if a2=q then .fail else HM (.ref (a2,b2) n2) (A1Z d sz byt (.sub (a,b) (y::p) i c n st)))else .fail:=by
 simp only[A0g]
 by_cases h1:a=q<;>by_cases h2:a2=q<;>simp[h1,h2]
theorem A4F (q sz byt:Nat) (a x:CY):BD s d (.appn q sz byt a x)=A0g d q sz byt (A6 s a) (A6 s x):=by
 simp only[BD]
 generalize A6 s a=v
 generalize A6 s x=u
 cases v<;>cases u<;>try rfl
 simp only[A0g]
 split
 ·congr 1
  funext new
  simp only[A1Z,yq]
  split
  ·congr 1
   funext t
   cases t with
   |sl o rows=>cases o with
    |true=>exact ra _
    |false=>rfl
   |_=>rfl
  ·rfl
 ·rfl
def A1b (str:Bool) (x:V):M V:=match str,x with
 |true, .t (.v (.string st))=> .ret (.t (.v (.int .i64 (AL st))))
 |false, .t (.sl _ rows)=> .ret (.t (.v (.int .i64 (AF rows))))
 |false, .nil=> .ret (.t (.v (.int .i64 0)))
 |false, .ref _ n=> .ret (.t (.v (.int .i64 n)))
 |false, .sub _ _ _ _ n _=> .ret (.t (.v (.int .i64 n)))
 |_,_=> .fail
theorem ABH (st:ByteArray):A1b true (.t (.v (.string st)))= .ret (.t (.v (.int .i64 (AL st)))):=rfl
theorem ABI (o:Bool) (rows:Rows):A1b false (.t (.sl o rows))= .ret (.t (.v (.int .i64 (AF rows)))):=rfl
theorem A4G : A1b false .nil= .ret (.t (.v (.int .i64 0))):=rfl
theorem A4H (id:Id) (n:Nat):A1b false (.ref id n)= .ret (.t (.v (.int .i64 n))):=rfl
theorem A4I (id:Id) (p:B5) (i c n st:Nat):A1b false (.sub id p i c n st)= .ret (.t (.v (.int .i64 n))):=rfl
theorem A87 (str:Bool) (x:CY):BD s d (.len str x)=A1b str (A6 s x):=by
 simp only[BD]
 generalize A6 s x=v
 cases str<;>cases v<;>try rfl
def mmV (mx:Bool) (x y:V):M V:=match x,y with
 | .t (.v (.int k a)), .t (.v (.int _ b))=> .ret (.t (.v (.int k (if mx then ACe a b else ACd a b))))
 |_,_=> .fail
theorem ACp (k k':IntKind) (a b:Int):mmV true (.t (.v (.int k a))) (.t (.v (.int k' b)))= .ret (.t (.v (.int k (ACe a b)))):=rfl
theorem ACq (k k':IntKind) (a b:Int):mmV false (.t (.v (.int k a))) (.t (.v (.int k' b)))= .ret (.t (.v (.int k (ACd a b)))):=rfl
theorem ABJ (mx:Bool) (x y:CY):BD s d (.mm mx x y)=mmV mx (A6 s x) (A6 s y):=rfl
def ABK (i:Nat):V→M V
 | .tup vs=>C8 vs[i]? .ret
 |_=> .fail
theorem A4J (i:Nat) (vs:List V):ABK i (.tup vs)=C8 vs[i]? .ret:=rfl
theorem A88 (x:CY) (i:Nat):BD s d (.ext x i)=ABK i (A6 s x):=by
 simp only[BD];generalize A6 s x=v;cases v<;>try rfl
 rename_i vs
 simp only[ABK]
 cases vs[i]?<;>rfl
theorem A89 (f:FuncId) (caps:List CY):BD s d (.mkf f caps)= .ret (.fn f (caps.map (A6 s))):=rfl
def vwB (n:Nat) (l h:Int):Option Unit:=if(0≤l∧l≤h∧h≤n)∧0<n then some ()else none
def A4K (x:V) (lo hi:Option V):M V:=match x with
 | .ref id n=>C8 (bnd lo 0) fun l=>C8 (bnd hi n) fun h=>C8 (vwB n l h) fun _=> .ret (.vw id l.toNat h.toNat n)
 |_=> .fail
theorem A4L (id:Id) (n:Nat) (k:IntKind) (h:Int):A4K (.ref id n) none (some (.t (.v (.int k h))))=C8 (vwB n 0 h) fun _=> .ret (.vw id 0 h.toNat n):=rfl
theorem A4M (id:Id) (n:Nat) (k:IntKind) (l:Int):A4K (.ref id n) (some (.t (.v (.int k l)))) none=C8 (vwB n l n) fun _=> .ret (.vw id l.toNat n n):=by
 simp only[A4K,bnd,C8,Int.toNat_natCast]
def ABL (x:V) (l h:Option Int→Option Int):M V:=match x with
 | .ref id n=>(match l (some 0),h (some n)with
   |some l,some h=>if(0≤l∧l≤h∧h≤n)∧0<n then .ret (.vw id l.toNat h.toNat n)else .fail
   |_,_=> .fail)
 |_=> .fail
theorem A4N (x:CY) (lo hi:Option CY):BD s d (.vws x lo hi)=ABL (A6 s x) (bnE s lo) (bnE s hi):=by
 simp only[BD,ABL]
 cases lo<;>cases hi<;>rfl
theorem A8A (x:CY) (lo hi:Option CY):BD s d (.vws x lo hi)=A4K (A6 s x) (lo.map (A6 s)) (hi.map (A6 s)):=by
 rw[A4N]
 generalize A6 s x=a
 cases a<;>try rfl
 rename_i id n
 simp only[A4K,ABL]
 rw[show(some (0:Int))=some 0 from rfl,sy,sy]
 generalize bnd (lo.map (A6 s)) 0=l
 generalize bnd (hi.map (A6 s)) (n:Int)=h
 cases l<;>cases h<;>try rfl
 rename_i l h
 simp only[C8,vwB]
 by_cases hc:(0≤l∧l≤h∧h≤(n:Int))∧0<n
 ·rw[if_pos hc,if_pos hc]
 ·rw[if_neg hc,if_neg hc]
def wT (n h l:Nat):Option Unit:=if h<l∧l≤n then some ()else none
def A8B (id:Id) (n h1 l2:Nat):EQ→M V
 | .mem rows _ _=>if rows.length=n∧Wd rows=true then .set id .dead (.ret (.t (.sl false (rows.take h1++rows.drop l2))))else .fail
 | .dead=> .fail
theorem A4O (k:IntKind) (l:List Int):Wd (l.map (rK k))=true:=by
 induction l with
 |nil=>rfl
 |cons x l ih=>simpa [Wd,rK] using ih
theorem A4P (id:Id) (n h1 l2:Nat) (k:IntKind) (l:List Int) (st:Nat) (fx:Bool):A8B id n h1 l2 (.mem (l.map (rK k)) st fx)=if l.length=n then .set id .dead (.ret (.t (.sl false ((l.take h1++l.drop l2).map (rK k)))))else .fail:=by
 simp only[A8B,A4O,List.length_map,and_true,List.map_append,List.map_take,List.map_drop]
def ABM : V→V→M V
 | .vw id l1 h1 n, .vw id2 l2 h2 n2=>if(id2=id∧n2=n)∧l1=0∧h2=n then C8 (wT n h1 l2) fun _=> .get id (A8B id n h1 l2)else .fail
 |_,_=> .fail
theorem A8C (id:Id) (l1 h1 n:Nat) (id2:Id) (l2 h2 n2:Nat):ABM (.vw id l1 h1 n) (.vw id2 l2 h2 n2)=if(id2=id∧n2=n)∧l1=0∧h2=n then C8 (wT n h1 l2) fun _=> .get id (A8B id n h1 l2)else .fail:=rfl
theorem A8D (x y:CY):BD s d (.cut x y)=ABM (A6 s x) (A6 s y):=by
 simp only[BD]
 generalize A6 s x=a
 generalize A6 s y=b
 cases a<;>try rfl
 cases b<;>try rfl
 rename_i id l1 h1 n id2 l2 h2 n2
 simp only[ABM]
 by_cases c1:(id2=id∧n2=n)∧l1=0∧h2=n
 ·rw[if_pos c1]
  by_cases c2:h1<l2∧l2≤n
  ·rw[if_pos ⟨c1.1,c1.2.1,c2.1,c2.2,c1.2.2⟩]
   simp only[wT,if_pos c2,C8]
   congr 1
   funext e
   cases e<;>rfl
  ·rw[if_neg (fun h=>c2 ⟨h.2.2.1,h.2.2.2.1⟩)]
   simp only[wT,if_neg c2,C8]
 ·rw[if_neg (fun h=>c1 ⟨h.1,h.2.1,h.2.2.2.2⟩),if_neg c1]
def byE (l:List Int):EQ:=if l.length=0 then .dead else .mem (l.map (rK .u8)) 0 false
theorem iF (x:ByteArray):D4 x=(W9 x).map (rK .u8):=by
 simp only[D4,W9,List.map_map];rfl
theorem Xk (x:ByteArray):(W9 x).length=x.size:=by simp[W9]
theorem A8E (x:ByteArray):vH x=byE (W9 x):=by
 unfold vH byE
 rw[Xk,iF]
theorem A4Q (k:IntKind) (l:List Int):Aw (l.map (rK k))=l.map (rK k):=by
 induction l with
 |nil=>rfl
 |cons x l ih=>simp[Aw,rK,Ho,frz]at ih ⊢;exact ih
theorem A4R (r:R) (id:Id) (l:List Int):A3c r id l.length (byE l)=some (.t (.sl false (l.map (rK .u8))),Bf r id .dead):=by
 unfold byE
 by_cases h:l.length=0
 ·rw[if_pos h]
  have:l=[]:=List.eq_nil_of_length_eq_zero h
  subst this
  rfl
 ·rw[if_neg h]
  show(if(l.map (rK .u8)).length=l.length∧false=false then _ else _)=_
  rw[if_pos ⟨by simp,rfl⟩,A4Q]
theorem wU (l:List Int):Cp (l.map (rK .u8))=some (l.map fun n=>UInt8.ofNat n.toNat):=by
 induction l with
 |nil=>rfl
 |cons x l ih=>simp[Cp,rK]at ih ⊢;exact ih
def ABN (l:List Int):Option Unit:=if l.length=0 then none else some ()
theorem A4S (FT:Env) (c:Cx) (d:Nat) (hs:List H) (F:List Fr) (s:List V) (r:R) (l:List Int):A7A FT c d hs F s r (byE l)=(ABN l).bind fun _=>hn FT c hs F s (Bf r (d,0) (.mem (l.map (rK .u8)) 0 false)):=by
 unfold byE ABN
 by_cases h:l.length=0
 ·rw[if_pos h,if_pos h];rfl
 ·rw[if_neg h,if_neg h];rfl
def ABO (d:Nat):V→M V
 | .t (.v (.string x))=>C8 (fU x) fun l=> .new [byE l] (.ret (.ref (d,0) l.length))
 |_=> .fail
theorem ABP (d:Nat) (x:ByteArray):ABO d (.t (.v (.string x)))=C8 (fU x) fun l=> .new [byE l] (.ret (.ref (d,0) l.length)):=rfl
theorem A8F (x:CY):BD s d (.cvo x)=ABO d (A6 s x):=by
 simp only[BD]
 generalize A6 s x=a
 cases a<;>try rfl
 rename_i a;cases a<;>try rfl
 rename_i a;cases a<;>try rfl
 rename_i x
 simp only[ABO,fU]
 split
 ·simp only[C8,A8E,Xk]
 ·rfl
def A8G (byt:Nat) (t:ByteArray):V→M V
 | .ref id n=> .get id (A1Y id n 1 byt ((W9 t).map (rK .u8)))
 |_=> .fail
theorem A4T (byt:Nat) (t:ByteArray) (id:Id) (n:Nat):A8G byt t (.ref id n)= .get id (A1Y id n 1 byt ((W9 t).map (rK .u8))):=rfl
def ABQ (byt:Nat) (a:V):V→M V
 | .t (.v (.string t))=>A8G byt t a
 |_=> .fail
theorem ABR (byt:Nat) (a:V) (t:ByteArray):ABQ byt a (.t (.v (.string t)))=A8G byt t a:=rfl
theorem A8H (byt:Nat) (a x:CY):BD s d (.aps byt a x)=ABQ byt (A6 s a) (A6 s x):=by
 simp only[BD]
 generalize A6 s x=v
 cases v<;>try rfl
 rename_i v;cases v<;>try rfl
 rename_i v;cases v<;>try rfl
 rename_i t
 simp only[ABQ]
 generalize A6 s a=b
 cases b<;>try rfl
 rename_i id n
 simp only[A8G]
 congr 1
 funext e
 cases e with
 |dead=>rfl
 |mem rows st fx=>
  simp only[A1Y,room,wS,List.length_map,Xk,iF]
end
end TT
