import Derived.Test.YtpmnlfgdicmiiaaGreatDoorTH4
set_option linter.unusedVariables false
namespace TT
open Go
theorem Wu {x:Int} (h1:-9223372036854775808≤x) (h2:x<9223372036854775808):IntKind.i64.wrap x=x:=by rw[IntKind.wrap_i64];omega
theorem Bk {a b:Int} (h1:-9223372036854775808≤a+b) (h2:a+b<9223372036854775808):Af a b=a+b:=Wu h1 h2
theorem E7 {a b:Int} (h1:-9223372036854775808≤a-b) (h2:a-b<9223372036854775808):Cq a b=a-b:=Wu h1 h2
theorem jf {a b:Int}:H5 a b=true↔a<b:=decide_eq_true_iff
theorem A8O {a b:Int}:H5 a b=false↔¬a<b:=decide_eq_false_iff_not
theorem Sq {a b:Int} (h:a<b):H5 a b=true:=jf.2 h
theorem Hr {a b:Int} (h:¬a<b):H5 a b=false:=A8O.2 h
theorem Ss {a b:Int} (h:a≤b):leI a b=true:=decide_eq_true h
theorem Z5 {a b:Int} (h:¬a≤b):leI a b=false:=decide_eq_false h
theorem PV {a b:Int} (h:b≤a):geI a b=true:=decide_eq_true h
theorem Ut {a b:Int} (h:¬b≤a):geI a b=false:=decide_eq_false h
theorem Rf {a b:Int} (h:b<a):Pj a b=true:=decide_eq_true h
theorem WJ {a b:Int} (h:¬b<a):Pj a b=false:=decide_eq_false h
theorem Z6 (a:Int):Ag a a=true:=beq_self_eq_true a
theorem lz (a:Int):neI a a=false:=by simp[neI]
theorem WK {a b:Int} (h:a=b):Ag a b=true:=by rw[h];exact Z6 b
theorem H0 {a b:Int} (h:a≠b):Ag a b=false:=by simp[Ag,h]
theorem Z7 (a b:Int):neI a b= !Ag a b:=rfl
theorem toList_inj {x y:ByteArray} (h:x.toList=y.toList):x=y:=by
 rw[ByteArray.toList_eq,ByteArray.toList_eq]at h
 cases x;cases y
 simp only[ByteArray.mk.injEq]
 exact Array.toList_inj.1 h
theorem Ix (x:ByteArray):C6 x x=true:=beq_self_eq_true _
theorem Wv (x y:ByteArray):UV x y= !C6 x y:=rfl
theorem RC {x y:ByteArray}:C6 x y=true↔x=y:=⟨fun h=>toList_inj (by simpa [C6] using h),fun h=>by rw[h];exact Ix y⟩
theorem eL {x y:Int}:Ag x y=true↔x=y:=by simp[Ag]
theorem A5G (x:Bool):eqB x x=true:=beq_self_eq_true _
theorem A5H (x:Bool):neB x x=false:=by simp[neB]
theorem Aq : maxLen=9223372036854775807:=rfl
section
variable {α β ρ:Type}
theorem BS {l pre rest:List α} {x:α} (h:pre++x::rest=l):getI l (pre.length:Int)=some x:=by
 subst h;unfold getI;rw[if_pos (by omega)];simp
theorem Bx {l pre rest:List α} {x:α} (h:pre++x::rest=l):H5 (pre.length:Int) (AD l)=true:=by
 subst h;apply Sq;simp only[AD,List.length_append,List.length_cons];omega
theorem Cj {l pre:List α} (h:pre++[]=l):H5 (pre.length:Int) (AD l)=false:=by
 subst h;apply Hr;simp[AD]
theorem Bm {l pre rest:List α} {x:α} (h:pre++x::rest=l) (hl:l.length≤maxLen):Af (pre.length:Int) 1=((pre++[x]).length:Int):=by
 have h1:pre.length<l.length:=by rw[←h];simp
 rw[Aq]at hl
 rw[Bk (by omega) (by omega)];simp
theorem Bh {l pre rest:List α} {x:α} (h:pre++x::rest=l):(pre++[x])++rest=l:=by simp[←h]
end
section
variable {α:Type}
def szs (sz:α→Nat) (l:List α):Nat:=(l.map sz).sum
theorem Kx (sz:α→Nat) (x:α) (l:List α):szs sz (x::l)=sz x+szs sz l:=rfl
theorem Dh (sz:α→Nat) {x:α}:∀{l:List α},x∈l→sz x≤szs sz l
 |y::l,h=>by
  rw[Kx]
  rcases List.mem_cons.1 h with h|h
  ·subst h;omega
  ·have:=Dh sz h;omega
end
end TT
namespace TT
open Go
end TT
set_option linter.unusedSimpArgs false
namespace TT
open Go
end TT
namespace TT
open Go
theorem Hs {n byt:Nat} (h:n≤4000000) (hb:0<byt) (hb2:byt≤1000):room n byt=some ():=by
 unfold room
 have:n*byt≤4000000*1000:=Nat.mul_le_mul h hb2
 rw[if_pos ⟨by unfold LIM;omega,hb⟩]
theorem qW {α:Type} (F:List α→Int→Option (List α)) (l:List α) (g:α→Option α) (byt:Nat)
  (hF:∀out i,F out i=if H5 i (AD l)then getI l i>>=fun x=>g x>>=fun r=>room (out.length+1) byt>>=fun _=>F (out++[r]) (Af i 1)else some out)
  (hb:0<byt) (hb2:byt≤1000) (hl:l.length≤4000000) (hg:∀x∈l,g x=some x):F [] 0=some l:=by
 have key:∀rest pre:List α,pre++rest=l→F pre pre.length=some l:=by
  intro rest
  induction rest with
  |nil=>intro pre hp;rw[hF,Cj hp];simp at hp;rw[hp];rfl
  |cons x rest ih=>
   intro pre hp
   have hlen:pre.length+1≤l.length:=by rw[←hp];simp
   rw[hF,Bx hp,BS hp,Bm hp (by rw[Aq];omega)]
   simp only[if_true,A3,hg x (by rw[←hp];simp),Hs (show pre.length+1≤4000000 by omega) hb hb2]
   exact ih (pre++[x]) (Bh hp)
 exact key l [] rfl
end TT
