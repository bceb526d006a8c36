import Derived.Test.YtpmnlfgdicmiiaaGreatDoorTH1
set_option linter.unusedVariables false
set_option linter.unusedSimpArgs false
namespace TT
open Go
def wr (k:IntKind) (a:Int):Int:=k.wrap a
def Af (a b:Int):Int:=IntKind.i64.wrap (a+b)
def Cq (a b:Int):Int:=IntKind.i64.wrap (a-b)
def cy (a b:Int):Int:=IntKind.i64.wrap (a*b)
def ACV (a:Int):Int:=IntKind.i64.wrap (0-a)
def A9n (a b:Int):Option Int:=if b=0 then none else some (IntKind.i64.wrap (a.tdiv b))
def xx (a b:Int):Option Int:=if b=0 then none else some (a.tmod b)
def H5 (a b:Int):Bool:=decide (a<b)
def leI (a b:Int):Bool:=decide (a≤b)
def Pj (a b:Int):Bool:=decide (a>b)
def geI (a b:Int):Bool:=decide (a≥b)
def Ag (a b:Int):Bool:=a==b
def neI (a b:Int):Bool:=a != b
def I1 (x y:ByteArray):Option ByteArray:=if x.size+y.size≤9223372036854775807 then some (x++y)else none
def C6 (x y:ByteArray):Bool:=x.toList==y.toList
def UV (x y:ByteArray):Bool:= !(x.toList==y.toList)
def ltS (x y:ByteArray):Bool:=Op.bytesLess x.toList y.toList
def leS (x y:ByteArray):Bool:=Op.bytesLess x.toList y.toList||x.toList==y.toList
def gtS (x y:ByteArray):Bool:= !(Op.bytesLess x.toList y.toList||x.toList==y.toList)
def geS (x y:ByteArray):Bool:= !(Op.bytesLess x.toList y.toList)
def eqB (a b:Bool):Bool:=a==b
def neB (a b:Bool):Bool:= !(a==b)
def ABi (a b:Int):Int:=if b<a then b else a
def ABj (a b:Int):Int:=if a<b then b else a
def B7 (x:ByteArray):Int:=x.size
def AD {α:Type} (l:List α):Int:=l.length
def ABk (n:Int):ByteArray:=Utf8.encode n
def getI {α:Type} (l:List α) (i:Int):Option α:=if 0≤i then l[i.toNat]? else none
def atS (s:ByteArray) (i:Int):Option Int:=if h:0≤i∧i.toNat<s.size then some (s[i.toNat]'h.2).toNat else none
def Pk (s:ByteArray) (l h:Int):Option ByteArray:=if 0≤l∧l≤h∧h≤s.size then some (s.extract l.toNat h.toNat)else none
def slL {α:Type} (s:List α) (l h:Int):Option (List α):=if 0≤l∧l≤h∧h≤s.length then some ((s.drop l.toNat).take (h.toNat-l.toNat))else none
def mkN (n:Int) (byt:Nat):Option Nat:=if 0≤n∧n.toNat*byt≤LIM∧0<byt then some n.toNat else none
def room (n byt:Nat):Option Unit:=if n*byt≤LIM∧0<byt then some ()else none
def rI (x:Int):List T:=[.v (.int .i64 x)]
def rK (k:IntKind) (x:Int):List T:=[.v (.int k x)]
def rS (x:ByteArray):List T:=[.v (.string x)]
def rB (x:Bool):List T:=[.v (.bool x)]
def rL {α:Type} (o:Bool) (f:α→List T) (l:List α):List T:=[.sl o (l.map f)]
def Ok {ρ:Type} (x:Option ρ) (e:ρ→BD) (y:Option BD):Prop:=∀r,x=some r→y=some (e r)
theorem rZ {ρ:Type} {r:ρ} {e:ρ→BD} {y:Option BD} (h:y=some (e r)):Ok (some r) e y:=fun r' h'=>by cases h';exact h
theorem A6b {ρ:Type} {e:ρ→BD} {y:Option BD}:Ok none e y:=fun r' h'=>by cases h'
theorem ABl {ρ:Type} {b:Bool} {x x':Option ρ} {e:ρ→BD} {y:Option BD} (h1:b=true→Ok x e y) (h2:b=false→Ok x' e y):Ok (if b then x else x') e y:=by
 cases b
 ·exact h2 rfl
 ·exact h1 rfl
theorem FF {α ρ:Type} {p:Option α} {f:α→Option ρ} {e:ρ→BD} {y:Option BD} (h:∀a,p=some a→Ok (f a) e y):Ok (p>>=f) e y:=fun r hr=>by
 obtain⟨a,h1,h2⟩:=Option.bind_eq_some_iff.1 hr
 exact h a h1 r h2
theorem D6 {β ρ:Type} {g:Option β} {f:β→Option ρ} {e:ρ→BD} {e':β→BD} {Y:Option BD} {k:BD→Option BD} (hg:Ok g e' Y) (h:∀v,Ok (f v) e (k (e' v))):Ok (g>>=f) e (Y.bind k):=fun r hr=>by
 obtain⟨a,h1,h2⟩:=Option.bind_eq_some_iff.1 hr
 rw[hg a h1]
 exact h a r h2
section
def XW (k:IntKind) (a b:Int):Int:=Go.bits .and k a b
def orK (k:IntKind) (a b:Int):Int:=Go.bits .or k a b
def A6c (k:IntKind) (a b:Int):Int:=Go.bits .xor k a b
def zr (k:IntKind) (a b:Int):Int:=Go.bits .andNot k a b
def A6d (k:IntKind) (a b:Int):Int:=k.wrap (a+b)
def A6e (k:IntKind) (a b:Int):Int:=k.wrap (a-b)
def A6f (k:IntKind) (a b:Int):Int:=k.wrap (a*b)
def A9o (k:IntKind) (a b:Int):Option Int:=if b=0 then none else some (k.wrap (a.tdiv b))
def ACW (k:IntKind) (a b:Int):Option Int:=if b=0 then none else some (k.wrap (a.tmod b))
def A9p (k:IntKind) (a b:Int):Option Int:=if b<0 then none else some (k.wrap (a*2^(min b.toNat k.bits)))
def nu (k:IntKind) (a b:Int):Option Int:=if b<0 then none else some (a.fdiv (2^(min b.toNat k.bits)))
theorem A6g (k:IntKind) (a b:Int):EC .and (.int k a) (.int k b)=some (.int k (XW k a b)):=by simp[EC,Tg,XW]
theorem A9q (k:IntKind) (a b:Int):EC .or (.int k a) (.int k b)=some (.int k (orK k a b)):=by simp[EC,Tg,orK]
theorem A6h (k:IntKind) (a b:Int):EC .xor (.int k a) (.int k b)=some (.int k (A6c k a b)):=by simp[EC,Tg,A6c]
theorem xy (k:IntKind) (a b:Int):EC .andNot (.int k a) (.int k b)=some (.int k (zr k a b)):=by simp[EC,Tg,zr]
theorem A6i (k k':IntKind) (a b:Int):EC .shl (.int k a) (.int k' b)=(A9p k a b).map (Value.int k):=by simp only[EC,A9p];split<;>rfl
theorem A6j (k k':IntKind) (a b:Int):EC .shr (.int k a) (.int k' b)=(nu k a b).map (Value.int k):=by simp only[EC,nu];split<;>rfl
theorem xz (a b:Int):EC .add (.int .u8 a) (.int .u8 b)=some (.int .u8 (A6d .u8 a b)):=rfl
theorem y8 (a b:Int):EC .sub (.int .u8 a) (.int .u8 b)=some (.int .u8 (A6e .u8 a b)):=rfl
theorem y9 (a b:Int):EC .mul (.int .u8 a) (.int .u8 b)=some (.int .u8 (A6f .u8 a b)):=rfl
theorem ut (a b:Int):EC .add (.int .i32 a) (.int .i32 b)=some (.int .i32 (A6d .i32 a b)):=rfl
theorem uv (a b:Int):EC .sub (.int .i32 a) (.int .i32 b)=some (.int .i32 (A6e .i32 a b)):=rfl
theorem uw (a b:Int):EC .mul (.int .i32 a) (.int .i32 b)=some (.int .i32 (A6f .i32 a b)):=rfl
theorem uy (a b:Int):EC .add (.int .u32 a) (.int .u32 b)=some (.int .u32 (A6d .u32 a b)):=rfl
theorem uz (a b:Int):EC .sub (.int .u32 a) (.int .u32 b)=some (.int .u32 (A6e .u32 a b)):=rfl
theorem v8 (a b:Int):EC .mul (.int .u32 a) (.int .u32 b)=some (.int .u32 (A6f .u32 a b)):=rfl
theorem vA (a b:Int):EC .add (.int .u64 a) (.int .u64 b)=some (.int .u64 (A6d .u64 a b)):=rfl
theorem vB (a b:Int):EC .sub (.int .u64 a) (.int .u64 b)=some (.int .u64 (A6e .u64 a b)):=rfl
theorem vC (a b:Int):EC .mul (.int .u64 a) (.int .u64 b)=some (.int .u64 (A6f .u64 a b)):=rfl
theorem A6k (a b:Int):EC .add (.int .i64 a) (.int .i64 b)=some (.int .i64 (Af a b)):=rfl
theorem A6l (a b:Int):EC .sub (.int .i64 a) (.int .i64 b)=some (.int .i64 (Cq a b)):=rfl
theorem A6m (a b:Int):EC .mul (.int .i64 a) (.int .i64 b)=some (.int .i64 (cy a b)):=rfl
theorem A6n (a b:Int):EC .quo (.int .i64 a) (.int .i64 b)=(A9n a b).map (Value.int .i64):=by simp only[EC,Tg,A9n,if_true];split<;>rfl
theorem vD (a b:Int):EC .quo (.int .u64 a) (.int .u64 b)=(A9o .u64 a b).map (Value.int .u64):=by simp only[EC,Tg,A9o,if_true];split<;>rfl
theorem A6o (a b:Int):EC .rem (.int .i64 a) (.int .i64 b)=(xx a b).map (Value.int .i64):=by simp only[EC,Tg,xx,if_true];split<;>rfl
theorem A9r (k:IntKind) (a b:Int):EC .lss (.int k a) (.int k b)=some (.bool (H5 a b)):=by simp only[EC,Tg,H5,if_true]
theorem A9s (k:IntKind) (a b:Int):EC .leq (.int k a) (.int k b)=some (.bool (leI a b)):=by simp only[EC,Tg,leI,if_true]
theorem A9t (k:IntKind) (a b:Int):EC .gtr (.int k a) (.int k b)=some (.bool (Pj a b)):=by simp only[EC,Tg,Pj,if_true]
theorem A9u (k:IntKind) (a b:Int):EC .geq (.int k a) (.int k b)=some (.bool (geI a b)):=by simp only[EC,Tg,geI,if_true]
theorem A9v (k:IntKind) (a b:Int):EC .eql (.int k a) (.int k b)=some (.bool (Ag a b)):=by simp only[EC,Tg,Ag,if_true]
theorem A9w (k:IntKind) (a b:Int):EC .neq (.int k a) (.int k b)=some (.bool (neI a b)):=by simp only[EC,Tg,neI,if_true]
theorem A6p (a b:ByteArray):EC .add (.string a) (.string b)=(I1 a b).map Value.string:=by simp only[EC,A2F,I1];split<;>rfl
theorem A9x (a b:ByteArray):EC .eql (.string a) (.string b)=some (.bool (C6 a b)):=rfl
theorem A9y (a b:ByteArray):EC .neq (.string a) (.string b)=some (.bool (UV a b)):=rfl
theorem A9z (a b:ByteArray):EC .lss (.string a) (.string b)=some (.bool (ltS a b)):=rfl
theorem AA0 (a b:ByteArray):EC .leq (.string a) (.string b)=some (.bool (leS a b)):=rfl
theorem AA1 (a b:ByteArray):EC .gtr (.string a) (.string b)=some (.bool (gtS a b)):=rfl
theorem AA2 (a b:ByteArray):EC .geq (.string a) (.string b)=some (.bool (geS a b)):=rfl
end
def CT {α β:Type}:Option α→(α→M β)→M β
 |some a,k=>k a
 |none,_=> .fail
section
variable (s:List V) (d:Nat)
theorem AA3 (x:D2):BL s d (.mv x)= .ret (A9 s x):=rfl
def A3B (c a b:V):M V:=match c with
 | .t (.v (.bool t))=> .ret (if t then a else b)
 |_=> .fail
theorem A3C (c a b:D2):BL s d (.pick c a b)=A3B (A9 s c) (A9 s a) (A9 s b):=rfl
theorem A6q (a b:V):A3B (.t (.v (.bool true))) a b= .ret a:=rfl
theorem A6r (a b:V):A3B (.t (.v (.bool false))) a b= .ret b:=rfl
theorem A0g (z:List T):BL s d (.alloc z)= .new [.mem [z] 0 false] (.ret (.ptr (d,0) [] 0 0 1 0)):=rfl
theorem A6s (x:D2):BL s d (.box x)=FN (cellsOf (A9 s x)) fun ts=>if ts.isEmpty then .fail else .new [.mem [ts] 0 false] (.ret (.ptr (d,0) [] 0 0 1 0)):=rfl
def ABm (d:Nat):V→M V
 | .agg cs=>if cs.isEmpty|| !cs.all V.one then .fail else .new [.mem [List.replicate cs.length .hole] 0 false] (.ret (.vb (d,0) 0 0 cs))
 |_=> .fail
theorem A3D (x:D2):BL s d (.vbox x)=ABm d (A9 s x):=by
 simp only[BL];generalize A9 s x=v;cases v<;>rfl
def A6t (id:Id) (n:Nat) (cs:List V):FA→M V
 | .mem [row] stt fx=>if row.length=n then .set id (.mem [List.replicate n .hole] (stt+1) fx) (.ret (.vb id 0 (stt+1) cs))else .fail
 |_=> .fail
def A6u (n:Nat) (x y:V):M V:=match gL x,y with
 |some id, .agg cs=>if cs.length=n∧cs.all V.one=true then .get id (A6t id n cs)else .fail
 |_,_=> .fail
theorem A6v (n:Nat) (x y:D2):BL s d (.vst n x y)=A6u n (A9 s x) (A9 s y):=by
 simp only[BL]
 generalize A9 s x=v
 generalize A9 s y=u
 simp only[A6u]
 generalize gL v=q
 cases q with
 |none=>rfl
 |some id=>
  cases u<;>try rfl
def zV : T→V
 | .sl true []=> .nil
 |c=> .t c
theorem A0h (z:List T) (parts:List (Nat×Nat×D2)):BL s d (.build z parts)=CT (bld s (z.map zV) parts) fun cs=> .ret (.agg cs):=by
 have e:BL s d (.build z parts)=match bld s (z.map zV) parts with|some cs=> .ret (.agg cs)|none=> .fail:=rfl
 rw[e]
 cases bld s (z.map zV) parts<;>rfl
def ABn (d sz:Nat) (rs:Rows):M V:=if rs.all fun r=>r.length==sz then .new [.mem rs 0 false] (.ret (.ref (d,0) rs.length))else .fail
theorem A6w (sz:Nat) (parts:List D2):BL s d (.bsl sz parts)=E2 (parts.map fun q=>cellsOf (A9 s q)) (ABn d sz):=rfl
def A8y (d sz:Nat) (rs:Rows):M V:=if rs.all fun r=>r.length==sz then .new [.mem rs 0 false] (.set (d,0) .dead (.ret (.t (.sl false (Az rs)))))else .fail
theorem A3E (sz:Nat) (parts:List D2):BL s d (.bslz sz parts)=E2 (parts.map fun q=>cellsOf (A9 s q)) (A8y d sz):=rfl
def iJ (ag:Bool) (vs:List V):M V:=if ag then .ret (.agg vs)else match vs with| [v]=> .ret v|_=> .fail
theorem A6x (vs:List V):iJ true vs= .ret (.agg vs):=rfl
theorem A3F (v:V):iJ false [v]= .ret v:=rfl
def ldE (n:Nat) (ag:Bool) (id:Id) (p:Path) (i off m st:Nat):FA→M V
 | .mem rows stt _=>CT (Dw rows stt p i m st) fun row=>if off+n≤row.length then iJ ag (Pb id p i off stt ((row.drop off).take n))else .fail
 | .dead=> .fail
def ldX (n:Nat) (ag:Bool) (off st:Nat) (cs:List V):FA→M V
 | .mem rows stt _=>if(st=stt∧rows.length=1)∧off+n≤cs.length then iJ ag ((cs.drop off).take n)else .fail
 | .dead=> .fail
def ldV (n:Nat) (ag:Bool):V→M V
 | .ptr id p i off m st=> .get id (ldE n ag id p i off m st)
 | .vb id off st cs=> .get id (ldX n ag off st cs)
 | .pp cs=>if n≤cs.length then iJ ag ((cs.take n).map tV)else .fail
 |_=> .fail
theorem AA4 (n:Nat) (ag:Bool) (x:D2):BL s d (.ld n ag x)=ldV n ag (A9 s x):=by
 simp only[BL]
 generalize A9 s x=v
 cases v<;>try rfl
 ·simp only[ldV]
  congr 1
  funext e
  cases e<;>try rfl
  simp only[ldE]
  generalize Dw _ _ _ _ _ _=o
  cases o<;>rfl
 ·simp only[ldV]
  congr 1
  funext e
  cases e<;>rfl
def stE (id:Id) (p:Path) (i off m st n:Nat) (ts:List T):FA→M V
 | .mem rows stt fx=>CT (Dw rows stt p i m st) fun row=>if ts.length=n∧off+n≤row.length then .set id (.mem (K0 rows p i off ts) (stt+1) fx) (.ret .dead)else .fail
 | .dead=> .fail
def stV (n:Nat) (x y:V):M V:=match x with
 | .ptr id p i off m st=>FN (cellsOf y) fun ts=> .get id (stE id p i off m st n ts)
 |_=> .fail
theorem A6y (n:Nat) (id:Id) (p:Path) (i off m st:Nat) (y:V):stV n (.ptr id p i off m st) y=FN (cellsOf y) fun ts=> .get id (stE id p i off m st n ts):=rfl
theorem AA5 (n:Nat) (x y:D2):BL s d (.st n x y)=stV n (A9 s x) (A9 s y):=by
 simp only[BL]
 generalize A9 s x=v
 cases v<;>try rfl
 simp only[stV]
 congr 1
 funext ts
 congr 1
 funext e
 cases e<;>try rfl
 simp only[stE]
 generalize Dw _ _ _ _ _ _=o
 cases o<;>rfl
def A6z (id:Id) (p:Path) (i off m st:Nat) (ts:List T):FA→M V
 | .mem rows stt fx=>CT (Dw rows stt p i m st) fun row=>if ts.length=1∧off+1≤row.length then .set id (.mem (K0 rows p i off ts) (stt+1) fx) (.ret (jp id p i off (stt+1) ts))else .fail
 | .dead=> .fail
theorem A3G (id:Id) (p:Path) (i off m st:Nat) (ts:List T) (rows:Rows) (stt:Nat) (fx:Bool):A6z id p i off m st ts (.mem rows stt fx)=CT (Dw rows stt p i m st) fun row=>if ts.length=1∧off+1≤row.length then .set id (.mem (K0 rows p i off ts) (stt+1) fx) (.ret (jp id p i off (stt+1) ts))else .fail:=rfl
def AA6 (x y:V):M V:=match x,y with
 | .ptr id p i off m st, .ref id2 n2=>FN [.ref id2 n2] fun ts=> .get id (A6z id p i off m st ts)
 |_,_=> .fail
theorem A3H (id:Id) (p:Path) (i off m st:Nat) (id2:Id) (n2:Nat):AA6 (.ptr id p i off m st) (.ref id2 n2)=FN [.ref id2 n2] fun ts=> .get id (A6z id p i off m st ts):=rfl
theorem A70 (id:Id) (p:Path) (i off st:Nat) (rs:Rows):jp id p i off st [.sl true rs]= .sub id p i off rs.length st:=rfl
theorem A71 (x y:D2):BL s d (.stk x y)=AA6 (A9 s x) (A9 s y):=by
 simp only[BL]
 generalize A9 s x=v
 generalize A9 s y=u
 cases v<;>cases u<;>try rfl
 simp only[AA6]
 congr 1
 funext ts
 congr 1
 funext e
 cases e with
 |dead=>rfl
 |mem rows stt fx=>
  simp only[A6z]
  cases Dw rows stt _ _ _ _<;>rfl
theorem ABo : zV (.sl false [])= .t (.sl false []):=rfl
def zt : V→M V
 | .ptr a b c d e f=> .ret (.ptr a b c d e f)
 | .vb a b c d=> .ret (.vb a b c d)
 | .pp cs=> .ret (.pp cs)
 | .fn f caps=> .ret (.fn f caps)
 |_=> .fail
theorem A3I (x:D2):BL s d (.nilc x)=zt (A9 s x):=by
 simp only[BL];generalize A9 s x=v;cases v<;>rfl
def AA7 (op:BinOp) (x y:V):M V:=match x,y with
 | .t (.v a), .t (.v b)=>CT (EC op a b) fun r=> .ret (.t (.v r))
 |_,_=> .fail
theorem AA8 (op:BinOp) (a b:Value):AA7 op (.t (.v a)) (.t (.v b))=CT (EC op a b) fun r=> .ret (.t (.v r)):=rfl
theorem A72 (op:BinOp) (x y:D2):BL s d (.bin op x y)=AA7 op (A9 s x) (A9 s y):=by
 simp only[BL]
 generalize A9 s x=a
 generalize A9 s y=b
 cases a<;>try rfl
 rename_i a;cases a<;>try rfl
 cases b<;>try rfl
 rename_i b;cases b<;>try rfl
 rename_i a b
 simp only[AA7]
 cases EC op a b<;>rfl
def AA9 (ne:Bool) (ks:List FK) (x y:V):M V:=match x,y with
 | .agg as, .agg bs=>CT (eZ ks as bs) fun r=> .ret (.t (.v (.bool (if ne then !r else r))))
 |_,_=> .fail
theorem A3J (ne:Bool) (ks:List FK) (as bs:List V):AA9 ne ks (.agg as) (.agg bs)=CT (eZ ks as bs) fun r=> .ret (.t (.v (.bool (if ne then !r else r)))):=rfl
theorem A73 (ne:Bool) (ks:List FK) (x y:D2):BL s d (.eqs ne ks x y)=AA9 ne ks (A9 s x) (A9 s y):=by
 simp only[BL]
 generalize A9 s x=a
 generalize A9 s y=b
 cases a<;>try rfl
 cases b<;>try rfl
 rename_i a b
 simp only[AA9]
 cases eZ ks a b<;>rfl
def AAA (ne:Bool) (x y:V):M V:=match x,y with
 | .t (.v (.bool a)), .t (.v (.bool b))=> .ret (.t (.v (.bool (if ne then neB a b else eqB a b))))
 |_,_=> .fail
theorem AAB (a b:Bool):AAA false (.t (.v (.bool a))) (.t (.v (.bool b)))= .ret (.t (.v (.bool (eqB a b)))):=rfl
theorem AAC (a b:Bool):AAA true (.t (.v (.bool a))) (.t (.v (.bool b)))= .ret (.t (.v (.bool (neB a b)))):=rfl
theorem A74 (ne:Bool) (x y:D2):BL s d (.beq ne x y)=AAA ne (A9 s x) (A9 s y):=rfl
def A75 (ne:Bool):V→M V
 | .nil=> .ret (.t (.v (.bool (!ne))))
 | .t (.v (.slice q _ _))=> .ret (.t (.v (.bool (if ne then !q.isNone else q.isNone))))
 | .t (.sl _ (_::_))=> .ret (.t (.v (.bool ne)))
 |_=> .fail
theorem A3K (ne:Bool):A75 ne .nil= .ret (.t (.v (.bool (!ne)))):=rfl
theorem AAD (ne:Bool) (q:Option Addr) (n c:Nat):A75 ne (.t (.v (.slice q n c)))= .ret (.t (.v (.bool (if ne then !q.isNone else q.isNone)))):=rfl
theorem AAE (ne o:Bool) (r:List T) (rs:Rows):A75 ne (.t (.sl o (r::rs)))= .ret (.t (.v (.bool ne))):=rfl
theorem A76 (ne:Bool) (x:D2):BL s d (.eqn ne x)=A75 ne (A9 s x):=by
 simp only[BL]
 generalize A9 s x=v
 cases v<;>try rfl
def unV (op:UnOp) (x:V):M V:=match op,x with
 | .not, .t (.v (.bool b))=> .ret (.t (.v (.bool (!b))))
 | .neg, .t (.v (.int k n))=> .ret (.t (.v (.int k (k.wrap (0-n)))))
 |_,_=> .fail
theorem A77 (b:Bool):unV .not (.t (.v (.bool b)))= .ret (.t (.v (.bool (!b)))):=rfl
theorem A78 (n:Int):unV .neg (.t (.v (.int .i64 n)))= .ret (.t (.v (.int .i64 (ACV n)))):=rfl
def ABp (ne:Bool):V→M V
 | .t (.v .nilIface)=> .ret (.t (.v (.bool (!ne))))
 |_=> .fail
theorem A3L (ne:Bool):ABp ne (.t (.v .nilIface))= .ret (.t (.v (.bool (!ne)))):=rfl
theorem A79 (ne:Bool) (x:D2):BL s d (.eqi ne x)=ABp ne (A9 s x):=rfl
theorem AAF (op:UnOp) (x:D2):BL s d (.un op x)=unV op (A9 s x):=rfl
def cvV (c:Cv) (x:V):M V:=match c with
 | .str=>(match x with
  | .sub .. => .fail
  |x=>GO x fun rows=>CT (DR rows) fun l=> .ret (.t (.v (.string ⟨l.toArray⟩))))
 |c=>CT (gK c x) .ret
theorem AAG (k k':IntKind) (n:Int):cvV (.int k') (.t (.v (.int k n)))= .ret (.t (.v (.int k' (wr k' n)))):=rfl
theorem A7A (k:IntKind) (n:Int):cvV .rune (.t (.v (.int k n)))= .ret (.t (.v (.string (ABk n)))):=rfl
def Wa (s:ByteArray):List Int:=s.data.toList.map fun b=>(b.toNat:Int)
def f9 (s:ByteArray):Option (List Int):=if s.size≤maxLen then some (Wa s)else none
theorem A3M (x:ByteArray):cvV .bytes (.t (.v (.string x)))=CT (f9 x) fun l=> .ret (.t (.sl false (l.map (rK .u8)))):=by
 simp only[cvV,gK,f9]
 split
 ·simp only[CT,DZ,Wa,List.map_map];rfl
 ·rfl
theorem A7B (x:ByteArray):cvV .same (.t (.v (.string x)))= .ret (.t (.v (.string x))):=rfl
def A7C (rows:Rows):M V:=CT (DR rows) fun l=> .ret (.t (.v (.string ⟨l.toArray⟩)))
theorem A7D (rows:Rows):A7C rows=CT (DR rows) fun l=> .ret (.t (.v (.string ⟨l.toArray⟩))):=rfl
theorem A3N (o:Bool) (rows:Rows):cvV .str (.t (.sl o rows))=A7C rows:=rfl
theorem yA : cvV .str .nil=A7C []:=rfl
theorem yB (id:Id) (n:Nat):cvV .str (.ref id n)=GO (.ref id n) A7C:=rfl
theorem A3O (c:Cv) (x:D2):BL s d (.conv c x)=cvV c (A9 s x):=by
 cases c<;>simp only[BL,cvV]
 case str=>
  generalize A9 s x=v
  cases v<;>try rfl
  ·rename_i c;cases c<;>try rfl
   simp only[GO]
   cases DR _<;>rfl
  ·show GO _ _=GO _ _
   congr 1;funext rows;cases DR rows<;>rfl
 all_goals (cases gK _ (A9 s x)<;>rfl)
def AAH (d:Nat) (z:List T) (byt:Nat):V→M V
 | .t (.v (.int _ n))=>CT (mkN n byt) fun m=> .new [.mem (List.replicate m z) 0 false] (.ret (.ref (d,0) m))
 |_=> .fail
theorem A7E (z:List T) (byt:Nat) (x:D2):BL s d (.mks z byt x)=AAH d z byt (A9 s x):=by
 simp only[BL]
 generalize A9 s x=v
 cases v<;>try rfl
 rename_i c;cases c<;>try rfl
 rename_i x;cases x<;>try rfl
 simp only[AAH,mkN]
 split<;>rfl
def iaK (sz:Nat) (id:Id) (p:Path) (n m st:Nat) (row:List T):M V:=if row.length=sz then .ret (.ptr id p n 0 m st)else .fail
def iaS (sz:Nat) (id:Id) (p:Path) (n:Int) (m st:Nat) (rows:Rows):M V:=if rows.length=m then CT (getI rows n) (iaK sz id p n.toNat m st)else .fail
def iaE (sz:Nat) (id:Id) (m:Nat) (n:Int):FA→M V
 | .mem rows _ _=>iaS sz id [] n m 0 rows
 | .dead=> .fail
def iaC (sz:Nat) (id:Id) (p:Path) (j c:Nat) (n:Int) (m st:Nat):FA→M V
 | .mem rows stt _=>if st=stt then CT (CR rows p j c) fun
   | .sl true rs=>iaS sz id (p++[(j,c)]) n m st rs
   |_=> .fail
  else .fail
 | .dead=> .fail
def iaP (sz:Nat) (row:List T):M V:=if row.length=sz then .ret (.pp row)else .fail
def iaV (sz:Nat) (x i:V):M V:=match i with
 | .t (.v (.int _ n))=>if 0≤n then(match x with
  | .t (.sl _ rows)=>CT (getI rows n) (iaP sz)
  | .ref id m=> .get id (iaE sz id m n)
  | .sub id p j c m st=> .get id (iaC sz id p j c n m st)
  |_=> .fail)else .fail
 |_=> .fail
theorem AAI (sz:Nat) (o:Bool) (rows:Rows) (k:IntKind) (n:Int):iaV sz (.t (.sl o rows)) (.t (.v (.int k n)))=if 0≤n then CT (getI rows n) (iaP sz)else .fail:=rfl
theorem A7F (sz:Nat) (id:Id) (m:Nat) (k:IntKind) (n:Int):iaV sz (.ref id m) (.t (.v (.int k n)))=if 0≤n then .get id (iaE sz id m n)else .fail:=rfl
theorem A7G (sz:Nat) (id:Id) (p:Path) (j c m st:Nat) (k:IntKind) (n:Int):iaV sz (.sub id p j c m st) (.t (.v (.int k n)))=if 0≤n then .get id (iaC sz id p j c n m st)else .fail:=rfl
theorem Y4 {α:Type} {l:List α} {n:Int} (h:0≤n):getI l n=l[n.toNat]? :=if_pos h
theorem AAJ (sz:Nat) (id:Id) (p:Path) (n m st:Nat) (o:Option (List T)):(match o with|some row=>if row.length=sz then M.ret (V.ptr id p n 0 m st)else .fail|none=> .fail)=CT o (iaK sz id p n m st):=by cases o<;>rfl
theorem AAK (sz:Nat) (x i:D2):BL s d (.ia sz x i)=iaV sz (A9 s x) (A9 s i):=by
 simp only[BL]
 generalize A9 s x=a
 generalize A9 s i=b
 cases b<;>try rfl
 rename_i b;cases b<;>try rfl
 rename_i b;cases b<;>try rfl
 rename_i k n
 simp only[iaV]
 split
 ·rename_i h0
  cases a<;>try rfl
  ·rename_i a;cases a<;>try rfl
   rename_i rows
   simp only[Y4 h0,CT]
   cases rows[n.toNat]?<;>rfl
  ·show M.get _ _=M.get _ _
   congr 1
   funext e;cases e<;>try rfl
   simp only[iaE,iaS,Y4 h0]
   rw[←AAJ];rfl
  ·show M.get _ _=M.get _ _
   congr 1
   funext e;cases e<;>try rfl
   simp only[iaC,iaS,Y4 h0]
   split
   ·cases CR _ _ _ _ with
    |none=>rfl
    |some t=>
     cases t<;>try rfl
     rename_i o rs
     cases o<;>try rfl
     simp only[CT]
     split
     ·cases rs[n.toNat]?<;>rfl
     ·rfl
   ·rfl
 ·rfl
def faV (off:Nat):V→M V
 | .ptr id p i o n st=> .ret (.ptr id p i (o+off) n st)
 | .vb id o st cs=> .ret (.vb id (o+off) st cs)
 | .pp cs=> .ret (.pp (cs.drop off))
 |_=> .fail
theorem A7H (off:Nat) (id:Id) (p:Path) (i o n st:Nat):faV off (.ptr id p i o n st)= .ret (.ptr id p i (o+off) n st):=rfl
theorem AAL (off:Nat) (cs:List T):faV off (.pp cs)= .ret (.pp (cs.drop off)):=rfl
theorem AAM (off:Nat) (x:D2):BL s d (.fa off x)=faV off (A9 s x):=by
 simp only[BL];generalize A9 s x=v;cases v<;>rfl
def ABq (off n:Nat) (ag:Bool):V→M V
 | .agg cs=>if off+n≤cs.length then iJ ag ((cs.drop off).take n)else .fail
 |_=> .fail
theorem A3P (off n:Nat) (ag:Bool) (cs:List V):ABq off n ag (.agg cs)=if off+n≤cs.length then iJ ag ((cs.drop off).take n)else .fail:=rfl
theorem A7I (off n:Nat) (ag:Bool) (x:D2):BL s d (.fld off n ag x)=ABq off n ag (A9 s x):=by
 simp only[BL];generalize A9 s x=v;cases v<;>rfl
def ixV (x i:V):M V:=match x,i with
 | .t (.v (.string st)), .t (.v (.int _ n))=>CT (atS st n) fun b=> .ret (.t (.v (.int .u8 b)))
 |_,_=> .fail
theorem ABr (st:ByteArray) (k:IntKind) (n:Int):ixV (.t (.v (.string st))) (.t (.v (.int k n)))=CT (atS st n) fun b=> .ret (.t (.v (.int .u8 b))):=rfl
theorem AAN (x i:D2):BL s d (.ix x i)=ixV (A9 s x) (A9 s i):=by
 simp only[BL]
 generalize A9 s x=a
 generalize A9 s i=b
 cases a<;>try rfl
 rename_i a;cases a<;>try rfl
 rename_i a;cases a<;>try rfl
 cases b<;>try rfl
 rename_i b;cases b<;>try rfl
 rename_i b;cases b<;>try rfl
 simp only[ixV,atS]
 split<;>rfl
def ABs (sz len:Nat) (ag:Bool) (x i:V):M V:=match x,i with
 | .agg cs, .t (.v (.int _ n))=>if 0≤n∧n<len∧cs.length=len*sz then iJ ag ((cs.drop (n.toNat*sz)).take sz)else .fail
 |_,_=> .fail
theorem A3Q (sz len:Nat) (ag:Bool) (cs:List V) (k:IntKind) (n:Int):ABs sz len ag (.agg cs) (.t (.v (.int k n)))=if 0≤n∧n<len∧cs.length=len*sz then iJ ag ((cs.drop (n.toNat*sz)).take sz)else .fail:=rfl
theorem A7J (sz len:Nat) (ag:Bool) (x i:D2):BL s d (.ixa sz len ag x i)=ABs sz len ag (A9 s x) (A9 s i):=by
 simp only[BL]
 generalize A9 s x=a
 generalize A9 s i=b
 cases a<;>rfl
def bnd (o:Option V) (e:Int):Option Int:=match o with
 |none=>some e
 |some (.t (.v (.int _ n)))=>some n
 |_=>none
theorem A3R (e:Int):bnd none e=some e:=rfl
theorem A3S (e:Int) (k:IntKind) (n:Int):bnd (some (.t (.v (.int k n)))) e=some n:=rfl
def A3T (sz:Nat) (x:V) (lo hi:Option V):M V:=match x with
 | .t (.v (.string st))=>CT (bnd lo 0) fun l=>CT (bnd hi (B7 st)) fun h=>if sz=0 then CT (Pk st l h) fun z=> .ret (.t (.v (.string z)))else .fail
 | .t (.sl _ rows)=>CT (bnd lo 0) fun l=>CT (bnd hi (AD rows)) fun h=>if 0<sz∧(rows.all fun r=>r.length==sz)then CT (slL rows l h) fun z=> .ret (.t (.sl false z))else .fail
 |_=> .fail
theorem AAO (sz:Nat) (st:ByteArray) (lo hi:Option V):A3T sz (.t (.v (.string st))) lo hi=CT (bnd lo 0) fun l=>CT (bnd hi (B7 st)) fun h=>if sz=0 then CT (Pk st l h) fun z=> .ret (.t (.v (.string z)))else .fail:=rfl
theorem AAP (sz:Nat) (o:Bool) (rows:Rows) (lo hi:Option V):A3T sz (.t (.sl o rows)) lo hi=CT (bnd lo 0) fun l=>CT (bnd hi (AD rows)) fun h=>if 0<sz∧(rows.all fun r=>r.length==sz)then CT (slL rows l h) fun z=> .ret (.t (.sl false z))else .fail:=rfl
def A7K (sz:Nat) (x:V) (l h:Option Int→Option Int):M V:=match x with
 | .t (.v (.string st))=>(match l (some 0),h (some st.size)with
   |some l,some h=>if(0≤l∧l≤h∧h≤st.size)∧sz=0 then .ret (.t (.v (.string (st.extract l.toNat h.toNat))))else .fail
   |_,_=> .fail)
 | .t (.sl _ rows)=>(match l (some 0),h (some rows.length)with
   |some l,some h=>if(0≤l∧l≤h∧h≤rows.length)∧0<sz∧(rows.all fun r=>r.length==sz)then .ret (.t (.sl false ((rows.drop l.toNat).take (h.toNat-l.toNat))))else .fail
   |_,_=> .fail)
 |_=> .fail
def bnE (s:List V) (o:Option D2) (e:Option Int):Option Int:=match o with
 |none=>e
 |some q=>match A9 s q with| .t (.v (.int _ n))=>some n|_=>none
theorem A3U (sz:Nat) (x:D2) (lo hi:Option D2):BL s d (.slc sz x lo hi)=A7K sz (A9 s x) (bnE s lo) (bnE s hi):=by
 simp only[BL,A7K]
 cases lo<;>cases hi<;>rfl
theorem rc (o:Option D2) (e:Int):bnE s o (some e)=bnd (o.map (A9 s)) e:=by
 cases o with
 |none=>rfl
 |some q=>
  simp only[Option.map_some,bnE]
  generalize A9 s q=v
  cases v<;>try rfl
  rename_i v;cases v<;>try rfl
  rename_i v;cases v<;>rfl
theorem zu {A C:Prop} [Decidable A] [Decidable C] {α:Type} (k:α→M V) (x:α):(if A∧C then k x else M.fail)=if C then CT (if A then some x else none) k else M.fail:=by
 by_cases A<;>by_cases C<;>simp_all[CT]
theorem A7L (sz:Nat) (x:D2) (lo hi:Option D2):BL s d (.slc sz x lo hi)=A3T sz (A9 s x) (lo.map (A9 s)) (hi.map (A9 s)):=by
 rw[A3U]
 generalize A9 s x=a
 cases a<;>try rfl
 rename_i a;cases a<;>try rfl
 ·rename_i a;cases a<;>try rfl
  rename_i st
  simp only[A3T,A7K,B7,rc]
  generalize bnd (lo.map (A9 s)) 0=l
  generalize bnd (hi.map (A9 s)) (st.size:Int)=h
  cases l<;>cases h<;>try rfl
  exact zu (fun z=> .ret (.t (.v (.string z)))) _
 ·rename_i o rows
  simp only[A3T,A7K,AD,rc]
  generalize bnd (lo.map (A9 s)) 0=l
  generalize bnd (hi.map (A9 s)) (rows.length:Int)=h
  cases l<;>cases h<;>try rfl
  exact zu (fun z=> .ret (.t (.sl false z))) _
theorem A3V (f:FuncId) (md:List Md) (own:List Bool) (args:List D2):BL s d (.call f md own args)=Xr d f md own (args.map (A9 s)):=rfl
def cvv (d:Nat) (md:List Md) (own:List Bool) (args:List V):V→M V
 | .fn f caps=>Xr d f (md++(caps.map fun _=>Md.ref)) own (args++caps)
 |_=> .fail
theorem A0i (x:D2) (md:List Md) (own:List Bool) (args:List D2):BL s d (.callv x md own args)=cvv d md own (args.map (A9 s)) (A9 s x):=by
 simp only[BL];generalize A9 s x=v;cases v<;>rfl
def A0j (id:Id) (n sz byt:Nat) (new:Rows):FA→M V
 | .mem rows st _=>if rows.length=n∧(rows.all fun r=>r.length==sz)then CT (room (n+new.length) byt) fun _=> .set id (.mem (rows++new) st false) (.ret (.ref id (n+new.length)))else .fail
 | .dead=> .fail
def AAQ (d sz byt:Nat) (new:Rows):T→M V
 | .sl true rows=>if(rows.all fun r=>r.length==sz)then CT (room (rows.length+new.length) byt) fun _=> .new [.mem (rows++new) 0 false] (.ret (.ref (d,0) (rows.length+new.length)))else .fail
 |_=> .fail
def yC (d sz byt:Nat) (new:Rows):V→M V
 | .nil=>CT (room new.length byt) fun _=> .new [.mem new 0 false] (.ret (.ref (d,0) new.length))
 | .ref id n=> .get id (A0j id n sz byt new)
 | .sub id p i c n st=>take (.sub id p i c n st) (AAQ d sz byt new)
 |_=> .fail
def A0k (d sz byt:Nat) (a:V) (new:Rows):M V:=if(new.all fun r=>r.length==sz)then yC d sz byt new a else .fail
theorem A3W (d sz byt:Nat) (new:Rows):yC d sz byt new .nil=CT (room new.length byt) fun _=> .new [.mem new 0 false] (.ret (.ref (d,0) new.length)):=rfl
theorem A3X (d sz byt:Nat) (new:Rows) (id:Id) (n:Nat):yC d sz byt new (.ref id n)= .get id (A0j id n sz byt new):=rfl
theorem A3Y (d sz byt:Nat) (new:Rows) (id:Id) (p:Path) (i c n st:Nat):yC d sz byt new (.sub id p i c n st)=take (.sub id p i c n st) (AAQ d sz byt new):=rfl
theorem A3Z (id:Id) (n sz byt:Nat) (new rows:Rows) (st:Nat) (fx:Bool):A0j id n sz byt new (.mem rows st fx)=if rows.length=n∧(rows.all fun r=>r.length==sz)then CT (room (n+new.length) byt) fun _=> .set id (.mem (rows++new) st false) (.ret (.ref id (n+new.length)))else .fail:=rfl
theorem A7M (d sz byt:Nat) (new rows:Rows):AAQ d sz byt new (.sl true rows)=if(rows.all fun r=>r.length==sz)then CT (room (rows.length+new.length) byt) fun _=> .new [.mem (rows++new) 0 false] (.ret (.ref (d,0) (rows.length+new.length)))else .fail:=rfl
theorem vE {A B C D:Prop} [Decidable A] [Decidable B] [Decidable C] [Decidable D] (X:M V):(if A∧B∧C∧D then X else M.fail)=if A∧D then CT (if B∧C then some ()else none) (fun _=>X)else M.fail:=by
 by_cases A<;>by_cases B<;>by_cases C<;>by_cases D<;>simp_all[CT]
theorem qN {B C D:Prop} [Decidable B] [Decidable C] [Decidable D] (X:M V):(if B∧C∧D then X else M.fail)=if D then CT (if B∧C then some ()else none) (fun _=>X)else M.fail:=by
 by_cases B<;>by_cases C<;>by_cases D<;>simp_all[CT]
theorem A7N (sz byt:Nat) (a x:D2):BL s d (.app sz byt a x)=IT (A9 s x) (A0k d sz byt (A9 s a)):=by
 simp only[BL]
 congr 1
 funext new
 simp only[A0k]
 split
 ·generalize A9 s a=v
  cases v<;>try rfl
  ·simp only[yC,room];split<;>rfl
  ·show M.get _ _=M.get _ _
   congr 1
   funext e;cases e<;>try rfl
   exact vE _
  ·simp only[yC]
   congr 1
   funext e;cases e<;>try rfl
   rename_i o rows
   cases o<;>try rfl
   exact qN _
 ·rfl
def A7O (id:Id) (p:Path) (i off m st:Nat):FA→M V
 | .mem rows stt _=>CT (Dw rows stt p i m st) fun row=>CT (row[off]?) fun t=> .ret (Lq id p i off stt t)
 | .dead=> .fail
theorem A3a (id:Id) (p:Path) (i off m st:Nat) (rows:Rows) (stt:Nat) (fx:Bool):A7O id p i off m st (.mem rows stt fx)=CT (Dw rows stt p i m st) fun row=>CT (row[off]?) fun t=> .ret (Lq id p i off stt t):=rfl
def AAR : V→M V
 | .ptr id p i off m st=>if p=[]then .get id (A7O id p i off m st)else .fail
 |_=> .fail
theorem A3b (id:Id) (i off m st:Nat):AAR (.ptr id [] i off m st)= .get id (A7O id [] i off m st):=rfl
theorem A7P (x:D2):BL s d (.ldr x)=AAR (A9 s x):=by
 simp only[BL]
 generalize A9 s x=v
 cases v with
 |ptr id p i off m st=>
  simp only[AAR]
  split
  ·congr 1
   funext e
   cases e with
   |dead=>rfl
   |mem rows stt fx=>
    simp only[A7O]
    generalize Dw rows stt p i m st=o
    cases o with
    |none=>rfl
    |some row=>
     show(match row[off]? with|some t=>M.ret (Lq id p i off stt t)|none=>M.fail)=CT (row[off]?) _
     generalize row[off]? =o
     cases o<;>rfl
  ·rfl
 |_=>rfl
def zv (d q sz byt:Nat) (a x:V):M V:=match a,x with
 | .sub id p i c n st, .ref id2 n2=>if p≠[]∧id.1=q∧id2.1≠q then IT (.ref id2 n2) (A0k d sz byt (.sub id p i c n st))else .fail
 |_,_=> .fail
theorem A0l (d q sz byt a b:Nat) (y:Nat×Nat) (p:Path) (i c n st a2 b2 n2:Nat):zv d q sz byt (.sub (a,b) (y::p) i c n st) (.ref (a2,b2) n2)=if a=q then(if a2=q then .fail else IT (.ref (a2,b2) n2) (A0k d sz byt (.sub (a,b) (y::p) i c n st)))else .fail:=by
 simp only[zv]
 by_cases h1:a=q<;>by_cases h2:a2=q<;>simp[h1,h2]
theorem A3c (q sz byt:Nat) (a x:D2):BL s d (.appn q sz byt a x)=zv d q sz byt (A9 s a) (A9 s x):=by
 simp only[BL]
 generalize A9 s a=v
 generalize A9 s x=u
 cases v<;>cases u<;>try rfl
 simp only[zv]
 split
 ·congr 1
  funext new
  simp only[A0k,yC]
  split
  ·congr 1
   funext t
   cases t with
   |sl o rows=>cases o with
    |true=>exact qN _
    |false=>rfl
   |_=>rfl
  ·rfl
 ·rfl
def A0m (str:Bool) (x:V):M V:=match str,x with
 |true, .t (.v (.string st))=> .ret (.t (.v (.int .i64 (B7 st))))
 |false, .t (.sl _ rows)=> .ret (.t (.v (.int .i64 (AD rows))))
 |false, .nil=> .ret (.t (.v (.int .i64 0)))
 |false, .ref _ n=> .ret (.t (.v (.int .i64 n)))
 |false, .sub _ _ _ _ n _=> .ret (.t (.v (.int .i64 n)))
 |_,_=> .fail
theorem AAS (st:ByteArray):A0m true (.t (.v (.string st)))= .ret (.t (.v (.int .i64 (B7 st)))):=rfl
theorem AAT (o:Bool) (rows:Rows):A0m false (.t (.sl o rows))= .ret (.t (.v (.int .i64 (AD rows)))):=rfl
theorem A3d : A0m false .nil= .ret (.t (.v (.int .i64 0))):=rfl
theorem A3e (id:Id) (n:Nat):A0m false (.ref id n)= .ret (.t (.v (.int .i64 n))):=rfl
theorem A3f (id:Id) (p:Path) (i c n st:Nat):A0m false (.sub id p i c n st)= .ret (.t (.v (.int .i64 n))):=rfl
theorem A7Q (str:Bool) (x:D2):BL s d (.len str x)=A0m str (A9 s x):=by
 simp only[BL]
 generalize A9 s x=v
 cases str<;>cases v<;>try rfl
def mmV (mx:Bool) (x y:V):M V:=match x,y with
 | .t (.v (.int k a)), .t (.v (.int _ b))=> .ret (.t (.v (.int k (if mx then ABj a b else ABi a b))))
 |_,_=> .fail
theorem ABt (k k':IntKind) (a b:Int):mmV true (.t (.v (.int k a))) (.t (.v (.int k' b)))= .ret (.t (.v (.int k (ABj a b)))):=rfl
theorem ABu (k k':IntKind) (a b:Int):mmV false (.t (.v (.int k a))) (.t (.v (.int k' b)))= .ret (.t (.v (.int k (ABi a b)))):=rfl
theorem AAU (mx:Bool) (x y:D2):BL s d (.mm mx x y)=mmV mx (A9 s x) (A9 s y):=rfl
def AAV (i:Nat):V→M V
 | .tup vs=>CT vs[i]? .ret
 |_=> .fail
theorem A3g (i:Nat) (vs:List V):AAV i (.tup vs)=CT vs[i]? .ret:=rfl
theorem A7R (x:D2) (i:Nat):BL s d (.ext x i)=AAV i (A9 s x):=by
 simp only[BL];generalize A9 s x=v;cases v<;>try rfl
 rename_i vs
 simp only[AAV]
 cases vs[i]?<;>rfl
theorem A7S (f:FuncId) (caps:List D2):BL s d (.mkf f caps)= .ret (.fn f (caps.map (A9 s))):=rfl
def vwB (n:Nat) (l h:Int):Option Unit:=if(0≤l∧l≤h∧h≤n)∧0<n then some ()else none
def A3h (x:V) (lo hi:Option V):M V:=match x with
 | .ref id n=>CT (bnd lo 0) fun l=>CT (bnd hi n) fun h=>CT (vwB n l h) fun _=> .ret (.vw id l.toNat h.toNat n)
 |_=> .fail
theorem A3i (id:Id) (n:Nat) (k:IntKind) (h:Int):A3h (.ref id n) none (some (.t (.v (.int k h))))=CT (vwB n 0 h) fun _=> .ret (.vw id 0 h.toNat n):=rfl
theorem A3j (id:Id) (n:Nat) (k:IntKind) (l:Int):A3h (.ref id n) (some (.t (.v (.int k l)))) none=CT (vwB n l n) fun _=> .ret (.vw id l.toNat n n):=by
 simp only[A3h,bnd,CT,Int.toNat_natCast]
def AAW (x:V) (l h:Option Int→Option Int):M V:=match x with
 | .ref id n=>(match l (some 0),h (some n)with
   |some l,some h=>if(0≤l∧l≤h∧h≤n)∧0<n then .ret (.vw id l.toNat h.toNat n)else .fail
   |_,_=> .fail)
 |_=> .fail
theorem A3k (x:D2) (lo hi:Option D2):BL s d (.vws x lo hi)=AAW (A9 s x) (bnE s lo) (bnE s hi):=by
 simp only[BL,AAW]
 cases lo<;>cases hi<;>rfl
theorem A7T (x:D2) (lo hi:Option D2):BL s d (.vws x lo hi)=A3h (A9 s x) (lo.map (A9 s)) (hi.map (A9 s)):=by
 rw[A3k]
 generalize A9 s x=a
 cases a<;>try rfl
 rename_i id n
 simp only[A3h,AAW]
 rw[show(some (0:Int))=some 0 from rfl,rc,rc]
 generalize bnd (lo.map (A9 s)) 0=l
 generalize bnd (hi.map (A9 s)) (n:Int)=h
 cases l<;>cases h<;>try rfl
 rename_i l h
 simp only[CT,vwB]
 by_cases hc:(0≤l∧l≤h∧h≤(n:Int))∧0<n
 ·rw[if_pos hc,if_pos hc]
 ·rw[if_neg hc,if_neg hc]
def vF (n h l:Nat):Option Unit:=if h<l∧l≤n then some ()else none
def A7U (id:Id) (n h1 l2:Nat):FA→M V
 | .mem rows _ _=>if rows.length=n∧X7 rows=true then .set id .dead (.ret (.t (.sl false (rows.take h1++rows.drop l2))))else .fail
 | .dead=> .fail
theorem A3l (k:IntKind) (l:List Int):X7 (l.map (rK k))=true:=by
 induction l with
 |nil=>rfl
 |cons x l ih=>simpa [X7,rK] using ih
theorem A3m (id:Id) (n h1 l2:Nat) (k:IntKind) (l:List Int) (st:Nat) (fx:Bool):A7U id n h1 l2 (.mem (l.map (rK k)) st fx)=if l.length=n then .set id .dead (.ret (.t (.sl false ((l.take h1++l.drop l2).map (rK k)))))else .fail:=by
 simp only[A7U,A3l,List.length_map,and_true,List.map_append,List.map_take,List.map_drop]
def AAX : V→V→M V
 | .vw id l1 h1 n, .vw id2 l2 h2 n2=>if(id2=id∧n2=n)∧l1=0∧h2=n then CT (vF n h1 l2) fun _=> .get id (A7U id n h1 l2)else .fail
 |_,_=> .fail
theorem A7V (id:Id) (l1 h1 n:Nat) (id2:Id) (l2 h2 n2:Nat):AAX (.vw id l1 h1 n) (.vw id2 l2 h2 n2)=if(id2=id∧n2=n)∧l1=0∧h2=n then CT (vF n h1 l2) fun _=> .get id (A7U id n h1 l2)else .fail:=rfl
theorem A7W (x y:D2):BL s d (.cut x y)=AAX (A9 s x) (A9 s y):=by
 simp only[BL]
 generalize A9 s x=a
 generalize A9 s y=b
 cases a<;>try rfl
 cases b<;>try rfl
 rename_i id l1 h1 n id2 l2 h2 n2
 simp only[AAX]
 by_cases c1:(id2=id∧n2=n)∧l1=0∧h2=n
 ·rw[if_pos c1]
  by_cases c2:h1<l2∧l2≤n
  ·rw[if_pos ⟨c1.1,c1.2.1,c2.1,c2.2,c1.2.2⟩]
   simp only[vF,if_pos c2,CT]
   congr 1
   funext e
   cases e<;>rfl
  ·rw[if_neg (fun h=>c2 ⟨h.2.2.1,h.2.2.2.1⟩)]
   simp only[vF,if_neg c2,CT]
 ·rw[if_neg (fun h=>c1 ⟨h.1,h.2.1,h.2.2.2.2⟩),if_neg c1]
def byE (l:List Int):FA:=if l.length=0 then .dead else .mem (l.map (rK .u8)) 0 false
theorem gl (x:ByteArray):DZ x=(Wa x).map (rK .u8):=by
 simp only[DZ,Wa,List.map_map];rfl
theorem Y5 (x:ByteArray):(Wa x).length=x.size:=by simp[Wa]
theorem A7X (x:ByteArray):tu x=byE (Wa x):=by
 unfold tu byE
 rw[Y5,gl]
theorem A3n (k:IntKind) (l:List Int):Az (l.map (rK k))=l.map (rK k):=by
 induction l with
 |nil=>rfl
 |cons x l ih=>simp[Az,rK,HF,frz]at ih ⊢;exact ih
theorem A3o (r:R) (id:Id) (l:List Int):A2z r id l.length (byE l)=some (.t (.sl false (l.map (rK .u8))),C3 r id .dead):=by
 unfold byE
 by_cases h:l.length=0
 ·rw[if_pos h]
  have:l=[]:=List.eq_nil_of_length_eq_zero h
  subst this
  rfl
 ·rw[if_neg h]
  show(if(l.map (rK .u8)).length=l.length∧false=false then _ else _)=_
  rw[if_pos ⟨by simp,rfl⟩,A3n]
theorem vG (l:List Int):DR (l.map (rK .u8))=some (l.map fun n=>UInt8.ofNat n.toNat):=by
 induction l with
 |nil=>rfl
 |cons x l ih=>simp[DR,rK]at ih ⊢;exact ih
def AAY (l:List Int):Option Unit:=if l.length=0 then none else some ()
theorem A3p (FT:Env) (c:Cx) (d:Nat) (hs:List H) (F:List Fr) (s:List V) (r:R) (l:List Int):A6S FT c d hs F s r (byE l)=(AAY l).bind fun _=>hn FT c hs F s (C3 r (d,0) (.mem (l.map (rK .u8)) 0 false)):=by
 unfold byE AAY
 by_cases h:l.length=0
 ·rw[if_pos h,if_pos h];rfl
 ·rw[if_neg h,if_neg h];rfl
def AAZ (d:Nat):V→M V
 | .t (.v (.string x))=>CT (f9 x) fun l=> .new [byE l] (.ret (.ref (d,0) l.length))
 |_=> .fail
theorem AAa (d:Nat) (x:ByteArray):AAZ d (.t (.v (.string x)))=CT (f9 x) fun l=> .new [byE l] (.ret (.ref (d,0) l.length)):=rfl
theorem A7Y (x:D2):BL s d (.cvo x)=AAZ d (A9 s x):=by
 simp only[BL]
 generalize A9 s x=a
 cases a<;>try rfl
 rename_i a;cases a<;>try rfl
 rename_i a;cases a<;>try rfl
 rename_i x
 simp only[AAZ,f9]
 split
 ·simp only[CT,A7X,Y5]
 ·rfl
def A7Z (byt:Nat) (t:ByteArray):V→M V
 | .ref id n=> .get id (A0j id n 1 byt ((Wa t).map (rK .u8)))
 |_=> .fail
theorem A3q (byt:Nat) (t:ByteArray) (id:Id) (n:Nat):A7Z byt t (.ref id n)= .get id (A0j id n 1 byt ((Wa t).map (rK .u8))):=rfl
def AAb (byt:Nat) (a:V):V→M V
 | .t (.v (.string t))=>A7Z byt t a
 |_=> .fail
theorem AAc (byt:Nat) (a:V) (t:ByteArray):AAb byt a (.t (.v (.string t)))=A7Z byt t a:=rfl
theorem A7a (byt:Nat) (a x:D2):BL s d (.aps byt a x)=AAb byt (A9 s a) (A9 s x):=by
 simp only[BL]
 generalize A9 s x=v
 cases v<;>try rfl
 rename_i v;cases v<;>try rfl
 rename_i v;cases v<;>try rfl
 rename_i t
 simp only[AAb]
 generalize A9 s a=b
 cases b<;>try rfl
 rename_i id n
 simp only[A7Z]
 congr 1
 funext e
 cases e with
 |dead=>rfl
 |mem rows st fx=>
  simp only[A0j,room,vE,List.length_map,Y5,gl]
end
end TT
