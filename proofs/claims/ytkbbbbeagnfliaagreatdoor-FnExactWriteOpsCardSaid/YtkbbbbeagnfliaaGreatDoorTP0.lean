import Derived.Test.YtkbbbbeagnfliaaGreatDoorTH4
set_option linter.unusedVariables false
namespace TT
open Go
theorem kY {x:Int} (h1:-9223372036854775808≤x) (h2:x<9223372036854775808):IntKind.i64.wrap x=x:=by rw[IntKind.wrap_i64];omega
theorem Cc {a b:Int} (h1:-9223372036854775808≤a+b) (h2:a+b<9223372036854775808):Ac a b=a+b:=kY h1 h2
theorem P6 {a b:Int} (h1:-9223372036854775808≤a-b) (h2:a-b<9223372036854775808):AY a b=a-b:=kY h1 h2
theorem A98 {a b:Int}:BV a b=true↔a<b:=decide_eq_true_iff
theorem A99 {a b:Int}:BV a b=false↔¬a<b:=decide_eq_false_iff_not
theorem P7 {a b:Int} (h:a<b):BV a b=true:=A98.2 h
theorem GB {a b:Int} (h:¬a<b):BV a b=false:=A99.2 h
theorem Z9 {a b:Int} (h:a≤b):TG a b=true:=decide_eq_true h
theorem nA {a b:Int} (h:¬a≤b):TG a b=false:=decide_eq_false h
theorem Ub {a b:Int} (h:b≤a):geI a b=true:=decide_eq_true h
theorem bn {a b:Int} (h:¬b≤a):geI a b=false:=decide_eq_false h
theorem RL {a b:Int} (h:b<a):IR a b=true:=decide_eq_true h
theorem ZA {a b:Int} (h:¬b<a):IR a b=false:=decide_eq_false h
theorem A5o (a:Int):AX a a=true:=beq_self_eq_true a
theorem P8 (a:Int):neI a a=false:=by simp[neI]
theorem RM {a b:Int} (h:a=b):AX a b=true:=by rw[h];exact A5o b
theorem C4 {a b:Int} (h:a≠b):AX a b=false:=by simp[AX,h]
theorem A04 (a b:Int):neI a b= !AX a b:=rfl
theorem toList_inj {x y:ByteArray} (h:x.toList=y.toList):x=y:=by
 rw[ByteArray.toList_eq,ByteArray.toList_eq]at h
 cases x;cases y
 simp only[ByteArray.mk.injEq]
 exact Array.toList_inj.1 h
theorem ZB (x:ByteArray):Bq x x=true:=beq_self_eq_true _
theorem RN (x:ByteArray):IN x x=false:=by simp[IN]
theorem WV (x y:ByteArray):IN x y= !Bq x y:=rfl
theorem T9 {x y:ByteArray}:Bq x y=true↔x=y:=⟨fun h=>toList_inj (by simpa [Bq] using h),fun h=>by rw[h];exact ZB y⟩
theorem ZW {x y:Int}:AX x y=true↔x=y:=by simp[AX]
theorem RO (x:Bool):neB x x=false:=by simp[neB]
theorem BB : maxLen=9223372036854775807:=rfl
section
variable {α β ρ:Type}
theorem BI {l pre rest:List α} {x:α} (h:pre++x::rest=l):AZ l (pre.length:Int)=some x:=by
 subst h;unfold AZ;rw[if_pos (by omega)];simp
theorem BZ {l pre rest:List α} {x:α} (h:pre++x::rest=l):BV (pre.length:Int) (AF l)=true:=by
 subst h;apply P7;simp only[AF,List.length_append,List.length_cons];omega
theorem CZ {l pre:List α} (h:pre++[]=l):BV (pre.length:Int) (AF l)=false:=by
 subst h;apply GB;simp[AF]
theorem C2 {l pre rest:List α} {x:α} (h:pre++x::rest=l) (hl:l.length≤maxLen):Ac (pre.length:Int) 1=((pre++[x]).length:Int):=by
 have h1:pre.length<l.length:=by rw[←h];simp
 rw[BB]at hl
 rw[Cc (by omega) (by omega)];simp
theorem CC {l pre rest:List α} {x:α} (h:pre++x::rest=l):(pre++[x])++rest=l:=by simp[←h]
end
def Uc (l:Int) (n:Nat):Int:=if l<n then-1 else l-n
theorem kZ {l:Int} {n:Nat} (h:0≤l):Uc l n<0↔l<n:=by unfold Uc;split<;>omega
theorem A5p {l:Int} {n:Nat} (h:0≤l) (hn:¬Uc l n<0):Uc l n≤l∧0≤Uc l n∧n≤l:=by unfold Uc at*;split<;>(split at hn<;>omega)
theorem A0o {l:Int} {n m:Nat} (h:0≤l):Uc l (n+m)=if Uc l n<0 then-1 else Uc (Uc l n) m:=by
 by_cases h1:l<n
 ·rw[if_pos ((kZ h).2 h1)];unfold Uc;rw[if_pos (by omega)]
 ·rw[if_neg (fun h2=>h1 ((kZ h).1 h2))];unfold Uc;rw[if_neg h1];by_cases h2:l-n<m
  ·rw[if_pos (by omega),if_pos h2]
  ·rw[if_neg (by omega),if_neg h2];omega
theorem xM {l:Int} (h:0≤l):Uc l 0=l:=by unfold Uc;rw[if_neg (by omega)];omega
theorem szK {l:Int} (n:Nat) (k:Int→Option Int) (m:Nat) (h0:0≤l) (h1:l≤1048576) (hn:n≤maxLen) (hk:∀l',0≤l'→l'≤1048576→k l'=some (Uc l' m)):
  (if BV (AY l n) 0 then some (-1)else k (AY l n))=some (Uc l (n+m)):=by
 rw[BB]at hn
 rw[P6 (by omega) (by omega),A0o h0]
 by_cases h:l<n
 ·rw[P7 (by omega),if_pos ((kZ h0).2 h)];rfl
 ·rw[GB (by omega),if_neg (fun h2=>h ((kZ h0).1 h2))]
  have e:Uc l n=l-n:=if_neg h
  rw[e]
  exact hk _ (by omega) (by omega)
theorem szE {l:Int} (n:Nat) (h0:0≤l) (h1:l≤1048576) (hn:n≤maxLen):(if BV (AY l n) 0 then some (-1)else some (AY l n))=some (Uc l n):=by
 have:=szK n some 0 h0 h1 hn (fun l' h _=>by rw[xM h])
 simpa using this
theorem szB {l:Int} (g:Int→Option Int) (n:Nat) (k:Int→Option Int) (m:Nat) (h0:0≤l) (h1:l≤1048576) (hg:g l=some (Uc l n)) (hk:∀l',0≤l'→l'≤1048576→k l'=some (Uc l' m)):
  (g l>>=fun r=>if BV r 0 then some (-1)else k r)=some (Uc l (n+m)):=by
 rw[hg,A0o h0]
 show(if BV (Uc l n) 0 then some (-1)else k (Uc l n))=_
 by_cases h:Uc l n<0
 ·rw[P7 h,if_pos h];rfl
 ·rw[GB h,if_neg h]
  obtain⟨h2,h3,_⟩:=A5p h0 h
  exact hk _ h3 (by omega)
theorem szD {l:Int} (h:0≤l):some l=some (Uc l 0):=by rw[xM h]
section
variable {α:Type}
def FG (sz:α→Nat) (l:List α):Nat:=(l.map sz).sum
theorem DI (sz:α→Nat) (x:α) (l:List α):FG sz (x::l)=sz x+FG sz l:=rfl
theorem BA (sz:α→Nat) {x:α}:∀{l:List α},x∈l→sz x≤FG sz l
 |y::l,h=>by
  rw[DI]
  rcases List.mem_cons.1 h with h|h
  ·subst h;omega
  ·have:=BA sz h;omega
theorem A9A (F:List α→Int→Int→Option Int) (g:α→Int→Option Int) (sz:α→Nat)
  (hF:∀a l i,F a l i=if BV i (AF a)then AZ a i>>=fun x=>g x l>>=fun r=>if BV r 0 then some (-1)else F a r (Ac i 1)else some l)
  (a:List α) (hl:a.length≤maxLen) (hg:∀x∈a,∀l,0≤l→l≤1048576→g x l=some (Uc l (sz x))):
  ∀rest pre l,pre++rest=a→0≤l→l≤1048576→F a l pre.length=some (Uc l (FG sz rest)):=by
 intro rest
 induction rest with
 |nil=>intro pre l hp h0 h1;rw[hF,CZ hp];exact szD h0
 |cons x rest ih=>
  intro pre l hp h0 h1
  rw[hF,BZ hp,BI hp]
  show(g x l>>=fun r=>if BV r 0 then some (-1)else F a r (Ac (pre.length:Int) 1))=_
  rw[C2 hp hl,DI]
  exact szB (g x) _ _ _ h0 h1 (hg x (by rw[←hp];simp) l h0 h1) fun l' h2 h3=>ih _ l' (CC hp) h2 h3
theorem WW (S:List α→Int→Option Int) (F:List α→Int→Int→Option Int) (g:α→Int→Option Int) (sz:α→Nat)
  (hS:∀a l,S a l=if BV (AY l (AF a)) 0 then some (-1)else F a (AY l (AF a)) 0)
  (hF:∀a l i,F a l i=if BV i (AF a)then AZ a i>>=fun x=>g x l>>=fun r=>if BV r 0 then some (-1)else F a r (Ac i 1)else some l)
  (a:List α) (hl:a.length≤maxLen) (hg:∀x∈a,∀l,0≤l→l≤1048576→g x l=some (Uc l (sz x))) {l:Int} (h0:0≤l) (h1:l≤1048576):S a l=some (Uc l (a.length+FG sz a)):=by
 rw[hS]
 exact szK a.length (fun l=>F a l 0) _ h0 h1 hl fun l' h2 h3=>A9A F g sz hF a hl hg a [] l' rfl h2 h3
theorem A9B {z:α} {pre:List α} {m:Nat}:AZ (pre++List.replicate (m+1) z) (pre.length:Int)=some z:=by
 unfold AZ;rw[if_pos (by omega)];simp[List.replicate_succ]
theorem A5q {z x:α} {pre:List α} {m:Nat}:(pre++List.replicate (m+1) z).set (Int.toNat (pre.length:Int)) x=(pre++[x])++List.replicate m z:=by
 simp[List.replicate_succ]
theorem A9C {β:Type} (F:List α→List β→Int→Option (List β)) (g:α→Option β) (h:α→β) (z:β)
  (hF:∀a out i,F a out i=if BV i (AF a)then AZ a i>>=fun x=>g x>>=fun r=>AZ out i>>=fun _=>F a (out.set (Int.toNat i) r) (Ac i 1)else some out)
  (a:List α) (hl:a.length≤maxLen) (hg:∀x∈a,g x=some (h x)):
  ∀rest pre,pre++rest=a→F a (pre.map h++List.replicate rest.length z) pre.length=some (a.map h):=by
 intro rest
 induction rest with
 |nil=>intro pre hp;rw[hF,CZ hp,←hp];simp
 |cons x rest ih=>
  intro pre hp
  rw[hF,BZ hp,BI hp]
  show(g x>>=fun r=>AZ _ (pre.length:Int)>>=fun _=>F a _ (Ac (pre.length:Int) 1))=_
  rw[hg x (by rw[←hp];simp)]
  have e:((pre.length:Nat):Int)=((pre.map h).length:Nat):=by simp
  show(AZ _ (pre.length:Int)>>=fun _=>F a _ (Ac (pre.length:Int) 1))=_
  rw[List.length_cons,e,A9B,A5q,←e,C2 hp hl]
  have:=ih (pre++[x]) (CC hp)
  simp only[List.map_append,List.map_cons,List.map_nil]at this
  exact this
theorem AC1 {n byt:Nat} (h:n*byt≤LIM) (hb:0<byt):mkN (n:Int) byt=some n:=by
 unfold mkN;rw[if_pos ⟨by omega,by simpa using h,hb⟩];simp
theorem WX {β:Type} (S:List α→Option (List β)) (F:List α→List β→Int→Option (List β)) (g:α→Option β) (h:α→β) (z:β) (byt:Nat)
  (hS:∀a,S a=mkN (AF a) byt>>=fun m=>F a (List.replicate m z) 0)
  (hF:∀a out i,F a out i=if BV i (AF a)then AZ a i>>=fun x=>g x>>=fun r=>AZ out i>>=fun _=>F a (out.set (Int.toNat i) r) (Ac i 1)else some out)
  (hb:0<byt) (hb2:byt≤100000) (a:List α) (hl:a.length≤1048576) (hg:∀x∈a,g x=some (h x)):S a=some (a.map h):=by
 have h1:a.length*byt≤LIM:=Nat.le_trans (Nat.mul_le_mul hl hb2) (by decide)
 rw[hS]
 have e:mkN (AF a) byt=some a.length:=AC1 h1 hb
 rw[e]
 exact A9C F g h z hF a (Nat.le_trans hl (by decide)) hg a [] rfl
theorem A9D {β:Type} (F:List β→List β→Int→Option Bool) (e:β→β→Option Bool)
  (hF:∀a b i,F a b i=if BV i (AF a)then AZ a i>>=fun x=>AZ b i>>=fun y=>e x y>>=fun r=>if r then F a b (Ac i 1)else some false else some true)
  (a:List β) (hl:a.length≤maxLen) (he:∀x∈a,e x x=some true):∀rest pre,pre++rest=a→F a a pre.length=some true:=by
 intro rest
 induction rest with
 |nil=>intro pre hp;rw[hF,CZ hp];rfl
 |cons x rest ih=>
  intro pre hp
  rw[hF,BZ hp,BI hp]
  show(e x x>>=fun r=>if r then F a a (Ac (pre.length:Int) 1)else some false)=_
  rw[he x (by rw[←hp];simp),C2 hp hl]
  exact ih _ (CC hp)
theorem WY {β:Type} (S:List β→List β→Option Bool) (F:List β→List β→Int→Option Bool) (e:β→β→Option Bool)
  (hS:∀a b,S a b=if neI (AF a) (AF b)then some false else F a b 0)
  (hF:∀a b i,F a b i=if BV i (AF a)then AZ a i>>=fun x=>AZ b i>>=fun y=>e x y>>=fun r=>if r then F a b (Ac i 1)else some false else some true)
  (a:List β) (hl:a.length≤maxLen) (he:∀x∈a,e x x=some true):S a a=some true:=by
 rw[hS,P8]
 exact A9D F e hF a hl he a [] rfl
end
end TT
namespace TT
open Go
section
variable {α β ρ σ:Type}
theorem xO {α β:Type} (f:α→Option β):((none:Option α)>>=f)=none:=rfl
end
end TT
set_option linter.unusedSimpArgs false
namespace TT
open Go
end TT
namespace TT
open Go
theorem FR {n byt:Nat} (h:n≤4000000) (hb:0<byt) (hb2:byt≤1000):room n byt=some ():=by
 unfold room
 have:n*byt≤4000000*1000:=Nat.mul_le_mul h hb2
 rw[if_pos ⟨by unfold LIM;omega,hb⟩]
theorem ZX {α:Type} (F:List α→Int→Option (List α)) (l:List α) (g:α→Option α) (byt:Nat)
  (hF:∀out i,F out i=if BV i (AF l)then AZ l i>>=fun x=>g x>>=fun r=>room (out.length+1) byt>>=fun _=>F (out++[r]) (Ac i 1)else some out)
  (hb:0<byt) (hb2:byt≤1000) (hl:l.length≤4000000) (hg:∀x∈l,g x=some x):F [] 0=some l:=by
 have key:∀rest pre:List α,pre++rest=l→F pre pre.length=some l:=by
  intro rest
  induction rest with
  |nil=>intro pre hp;rw[hF,CZ hp];simp at hp;rw[hp];rfl
  |cons x rest ih=>
   intro pre hp
   have hlen:pre.length+1≤l.length:=by rw[←hp];simp
   rw[hF,BZ hp,BI hp,C2 hp (by rw[BB];omega)]
   simp only[if_true,A1,hg x (by rw[←hp];simp),FR (show pre.length+1≤4000000 by omega) hb hb2]
   exact ih (pre++[x]) (CC hp)
 exact key l [] rfl
end TT
