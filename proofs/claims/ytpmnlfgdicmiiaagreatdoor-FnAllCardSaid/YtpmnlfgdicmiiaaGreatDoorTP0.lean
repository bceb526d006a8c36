import Derived.Test.YtpmnlfgdicmiiaaGreatDoorTH4
set_option linter.unusedVariables false
namespace TT
open Go
theorem TW {x:Int} (h1: -9223372036854775808≤x) (h2:x<9223372036854775808):IntKind.i64.wrap x=x:=by rw[IntKind.wrap_i64];omega
theorem BK {a b:Int} (h1: -9223372036854775808≤a+b) (h2:a+b<9223372036854775808):AV a b=a+b:=TW h1 h2
theorem DC {a b:Int} (h1: -9223372036854775808≤a-b) (h2:a-b<9223372036854775808):CH a b=a-b:=TW h1 h2
theorem bn {a b:Int}:HC a b=true↔a<b:=decide_eq_true_iff
theorem A2l {a b:Int}:HC a b=false↔¬a<b:=decide_eq_false_iff_not
theorem R5 {a b:Int} (h:a<b):HC a b=true:=bn.2 h
theorem GE {a b:Int} (h:¬a<b):HC a b=false:=A2l.2 h
theorem VH {a b:Int} (h:a≤b):U1 a b=true:=decide_eq_true h
theorem aT {a b:Int} (h:¬a≤b):U1 a b=false:=decide_eq_false h
theorem RW {a b:Int} (h:b≤a):UV a b=true:=decide_eq_true h
theorem Tz {a b:Int} (h:¬b≤a):UV a b=false:=decide_eq_false h
theorem RX {a b:Int} (h:b<a):SH a b=true:=decide_eq_true h
theorem VI {a b:Int} (h:¬b<a):SH a b=false:=decide_eq_false h
theorem zg (a:Int):Af a a=true:=beq_self_eq_true a
theorem zh (a:Int):neI a a=false:=by simp[neI]
theorem U0 {a b:Int} (h:a=b):Af a b=true:=by rw[h];exact zg b
theorem Og {a b:Int} (h:a≠b):Af a b=false:=by simp[Af,h]
theorem VJ (a b:Int):neI a b= !Af a b:=rfl
theorem toList_inj {x y:ByteArray} (h:x.toList=y.toList):x=y:=by
 rw[ByteArray.toList_eq,ByteArray.toList_eq]at h
 cases x;cases y
 simp only[ByteArray.mk.injEq]
 exact Array.toList_inj.1 h
theorem Sq (x:ByteArray):D5 x x=true:=beq_self_eq_true _
theorem TX {x y:ByteArray}:D5 x y=true↔x=y:=⟨fun h=>toList_inj (by simpa [D5] using h),fun h=>by rw[h];exact Sq y⟩
theorem Yt {x y:Int}:Af x y=true↔x=y:=by simp[Af]
theorem B4 : maxLen=9223372036854775807:=rfl
section
variable {α β ρ:Type}
theorem BY {l pre rest:List α} {x:α} (h:pre++x::rest=l):getI l (pre.length:Int)=some x:=by
 subst h;unfold getI;rw[if_pos (by omega)];simp
theorem DD {l pre rest:List α} {x:α} (h:pre++x::rest=l):HC (pre.length:Int) (AD l)=true:=by
 subst h;apply R5;simp only[AD,List.length_append,List.length_cons];omega
theorem EO {l pre:List α} (h:pre++[]=l):HC (pre.length:Int) (AD l)=false:=by
 subst h;apply GE;simp[AD]
theorem Ck {l pre rest:List α} {x:α} (h:pre++x::rest=l) (hl:l.length≤maxLen):AV (pre.length:Int) 1=((pre++[x]).length:Int):=by
 have h1:pre.length<l.length:=by rw[←h];simp
 rw[B4]at hl
 rw[BK (by omega) (by omega)];simp
theorem Cl {l pre rest:List α} {x:α} (h:pre++x::rest=l):(pre++[x])++rest=l:=by simp[←h]
end
section
variable {α:Type}
def szs (sz:α→Nat) (l:List α):Nat:=(l.map sz).sum
theorem Iv (sz:α→Nat) (x:α) (l:List α):szs sz (x::l)=sz x+szs sz l:=rfl
theorem Dq (sz:α→Nat) {x:α}:∀{l:List α},x∈l→sz x≤szs sz l
 |y::l,h=>by
  rw[Iv]
  rcases List.mem_cons.1 h with h|h
  ·subst h;omega
  ·have:=Dq sz h;omega
end
end TT
namespace TT
open Go
end TT
set_option linter.unusedSimpArgs false
namespace TT
open Go
end TT
namespace TT
open Go
theorem Gj {n byt:Nat} (h:n≤4000000) (hb:0<byt) (hb2:byt≤1000):room n byt=some ():=by
 unfold room
 have:n*byt≤4000000*1000:=Nat.mul_le_mul h hb2
 rw[if_pos ⟨by unfold LIM;omega,hb⟩]
theorem jU {α:Type} (F:List α→Int→Option (List α)) (l:List α) (g:α→Option α) (byt:Nat)
  (hF:∀out i,F out i=if HC i (AD l)then getI l i>>=fun x=>g x>>=fun r=>room (out.length+1) byt>>=fun _=>F (out++[r]) (AV i 1)else some out)
  (hb:0<byt) (hb2:byt≤1000) (hl:l.length≤4000000) (hg:∀x∈l,g x=some x):F [] 0=some l:=by
 have key:∀rest pre:List α,pre++rest=l→F pre pre.length=some l:=by
  intro rest
  induction rest with
  |nil=>intro pre hp;rw[hF,EO hp];simp at hp;rw[hp];rfl
  |cons x rest ih=>
   intro pre hp
   have hlen:pre.length+1≤l.length:=by rw[←hp];simp
   rw[hF,DD hp,BY hp,Ck hp (by rw[B4];omega)]
   simp only[if_true,A6,hg x (by rw[←hp];simp),Gj (show pre.length+1≤4000000 by omega) hb hb2]
   exact ih (pre++[x]) (Cl hp)
 exact key l [] rfl
end TT
