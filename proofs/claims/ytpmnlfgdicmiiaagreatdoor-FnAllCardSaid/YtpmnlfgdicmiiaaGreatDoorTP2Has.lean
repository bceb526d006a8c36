import Derived.Test.YtpmnlfgdicmiiaaGreatDoorTP2Sign
import Derived.Lib.IndexMore
import Derived.Lib.Fold
set_option linter.unusedVariables false
set_option linter.unusedSimpArgs false
namespace TT
open Go
theorem pK (s:ByteArray) (i k:Nat):(s.extract i k).toList=(s.data.toList.drop i).take (k-i):=by
 rw[Lib.toList_data,Lib.extract_data]
theorem Td (s:ByteArray):s.data.toList.length=s.size:=Array.length_toList
theorem zy (s t:ByteArray) (ht:1≤t.size) (hs:s.size≤4000000) (hts:t.size≤4000000):∀(m i:Nat),i≤s.size→s.size-i≤m→
  ∃b,CR s t i=some b∧(b=true↔∃j,i≤j∧j≤s.size∧Lib.occAt s.data.toList t.data.toList j=true):=by
 intro m
 have hz:∀i,s.size<i+t.size→∀j,i≤j→j≤s.size→Lib.occAt s.data.toList t.data.toList j=false:=fun i hi j h1 h2=>by
  rw[Bool.eq_false_iff]
  intro h
  rcases Lib.occAt_room h with h'|h'
  ·rw[Td,Td]at h';omega
  ·have:=Td t;rw[h']at this;simp at this;omega
 have hend:∀i,i≤s.size→s.size<i+t.size→∃b,CR s t i=some b∧(b=true↔∃j,i≤j∧j≤s.size∧Lib.occAt s.data.toList t.data.toList j=true):=fun i hi h=>by
  refine⟨false, ?_, ?_⟩
  ·rw[CR,BK (by simp only[Ag];omega) (by simp only[Ag];omega),aT (by simp only[Ag];omega)];rfl
  ·constructor
   ·intro h;cases h
   ·rintro ⟨j,h1,h2,h3⟩
    rw[hz i h j h1 h2]at h3;cases h3
 induction m with
 |zero=>intro i h hm;exact hend i h (by omega)
 |succ m ih=>
  intro i h hm
  by_cases hi:i+t.size≤s.size
  ·obtain⟨b,h1,h2⟩:=ih (i+1) (by omega) (by omega)
   have hsub:TC s i ((i:Int)+t.size)=some (s.extract i (i+t.size)):=by
    unfold TC
    rw[if_pos ⟨by omega,by omega,by omega⟩]
    congr 1
   have hocc:Lib.occAt s.data.toList t.data.toList i=((s.extract i (i+t.size)).toList==t.toList):=by
    rw[Lib.occAt_iff_take _ _ _ (by rw[Td,Td];exact hi),pK,Td,Lib.toList_data,show i+t.size-i=t.size by omega]
   have e1:AV (i:Int) (Ag t)=(i:Int)+t.size:=BK (by simp only[Ag];omega) (by simp only[Ag];omega)
   rw[CR,e1,VH (by simp only[Ag];omega)]
   have he:D5 (s.extract i (i+t.size)) t=Lib.occAt s.data.toList t.data.toList i:=by rw[D5];exact hocc.symm
   simp only[if_true,hsub,A6,he]
   cases ho:Lib.occAt s.data.toList t.data.toList i with
   |true=>exact⟨true,rfl,fun _=>⟨i,Nat.le_refl _,by omega,ho⟩,fun _=>rfl⟩
   |false=>
    refine⟨b, ?_,h2.trans ⟨fun⟨j,g1,g2,g3⟩=>⟨j,by omega,g2,g3⟩,fun⟨j,g1,g2,g3⟩=>⟨j, ?_,g2,g3⟩⟩⟩
    ·simp only[Bool.false_eq_true,if_false]
     rw[BK (by omega) (by omega)]
     exact h1
    ·by_cases e:j=i
     ·subst e;rw[ho]at g3;cases g3
     ·omega
  ·exact hend i h (by omega)
theorem mJ (s t:ByteArray) (ht:1≤t.size) (hs:s.size≤4000000) (hts:t.size≤4000000):Dy s t=some (Gn s t)∧strings_Contains s t=some (Gn s t):=by
 refine⟨?_,by rw[strings_Contains,if_pos (by omega)]⟩
 obtain⟨b,h1,h2⟩:=zy s t ht hs hts s.size 0 (Nat.zero_le _) (by omega)
 have h1':CR s t 0=some b:=h1
 rw[Dy,h1']
 congr 1
 rw[Bool.eq_iff_iff,h2,Gn,Lib.contains,decide_eq_true_iff]
 rcases Lib.index_spec s.data.toList t.data.toList with ⟨g1,g2⟩|⟨i,g1,g2,g3,_⟩
 ·rw[g1]
  constructor
  ·rintro ⟨j,_,a,b⟩
   rw[g2 j (by rw[Td];exact a)]at b;cases b
  ·intro h;omega
 ·rw[g1]
  exact⟨fun _=>by omega,fun _=>⟨i,Nat.zero_le _,by rw[Td]at g2;exact g2,g3⟩⟩
theorem eV (x y:UInt8) (h:97≤y.toNat∧y.toNat≤122):Lib.foldEq x y=(decide (x.toNat=y.toNat)||decide (x.toNat+32=y.toNat)):=by
 rw[Bool.eq_iff_iff,Lib.foldEq,Bool.or_eq_true,decide_eq_true_iff,decide_eq_true_iff,decide_eq_true_iff]
 have:=x.toNat_lt
 omega
theorem A2u (s:ByteArray) (hs:s.size≤4000000):Ka s=some (WD s ⟨#[120,109,108]⟩)∧strings_EqualFold s ⟨#[120,109,108]⟩=some (WD s ⟨#[120,109,108]⟩):=by
 refine⟨?_,by rw[strings_EqualFold,if_pos ⟨by omega,by decide⟩]⟩
 rw[Ka]
 by_cases h:s.size=3
 ·have hl:=Td s
  rw[h]at hl
  match hd:s.data.toList,hl with
  | [a,b,c],_=>
   have g0:s.get! 0=a:=by
    show s.data[0]! =a
    rw[←Array.getElem!_toList,hd];rfl
   have g1:s.get! 1=b:=by
    show s.data[1]! =b
    rw[←Array.getElem!_toList,hd];rfl
   have g2:s.get! 2=c:=by
    show s.data[2]! =c
    rw[←Array.getElem!_toList,hd];rfl
   have e0:SZ s 0=some ((a.toNat:Nat):Int):=(Xb (i:=0) (k:=0) rfl (by omega)).trans (by rw[UH,g0])
   have e1:SZ s 1=some ((b.toNat:Nat):Int):=(Xb (i:=1) (k:=1) rfl (by omega)).trans (by rw[UH,g1])
   have e2:SZ s 2=some ((c.toNat:Nat):Int):=(Xb (i:=2) (k:=2) rfl (by omega)).trans (by rw[UH,g2])
   have hf:WD s ⟨#[120,109,108]⟩=((decide (a.toNat=120)||decide (a.toNat=88))&&((decide (b.toNat=109)||decide (b.toNat=77))&&(decide (c.toNat=108)||decide (c.toNat=76)))):=by
    rw[WD,hd]
    show(Lib.foldEq a 120&&(Lib.foldEq b 109&&(Lib.foldEq c 108&&true)))=_
    rw[eV a 120 (by decide),eV b 109 (by decide),eV c 108 (by decide),Bool.and_true]
    congr 1
    ·congr 1;rw[decide_eq_decide];show a.toNat+32=120↔_;omega
    ·congr 1
     ·congr 1;rw[decide_eq_decide];show b.toNat+32=109↔_;omega
     ·congr 1;rw[decide_eq_decide];show c.toNat+32=108↔_;omega
   have ei:∀(x k:Nat),Af (x:Int) (k:Int)=decide (x=k):=fun x k=>by
    rw[Af,Bool.eq_iff_iff,beq_iff_eq,decide_eq_true_iff];omega
   have q1:=ei a.toNat 120;have q2:=ei a.toNat 88;have q3:=ei b.toNat 109;have q4:=ei b.toNat 77;have q5:=ei c.toNat 108;have q6:=ei c.toNat 76
   rw[VJ,U0 (by simp only[Ag];omega)]
   simp only[Bool.not_true,Bool.false_eq_true,if_false,e0,e1,e2,A6,hf]
   simp only[Int.cast_ofNat_Int]at q1 q2 q3 q4 q5 q6
   rw[q1,q2,q3,q4,q5,q6]
   cases decide (a.toNat=120)<;>cases decide (a.toNat=88)<;>cases decide (b.toNat=109)<;>cases decide (b.toNat=77)<;>cases decide (c.toNat=108)<;>cases decide (c.toNat=76)<;>rfl
 ·rw[VJ,Og (by simp only[Ag];omega)]
  simp only[Bool.not_false,if_true]
  congr 1
  symm
  rw[WD,Bool.eq_false_iff]
  intro hh
  have hlen:∀(x y:List UInt8),Lib.equalFold x y=true→x.length=y.length:=by
   intro x
   induction x with
   |nil=>intro y h;cases y with
    |nil=>rfl
    |cons _ _=>cases h
   |cons a x ih=>intro y h;cases y with
    |nil=>cases h
    |cons b y=>
     rw[Lib.equalFold,Bool.and_eq_true]at h
     simp[ih y h.2]
  have:=hlen _ _ hh
  rw[Td]at this
  exact h this
theorem eW : ∀ (a b:List UInt8),((Lib.compareBytes a b<0)↔Op.bytesLess a b=true)∧(Lib.compareBytes a b=0↔a=b)
 | [],[]=>by simp[Lib.compareBytes,Op.bytesLess]
 | [],_::_=>by simp[Lib.compareBytes,Op.bytesLess]
 |_::_,[]=>by simp[Lib.compareBytes,Op.bytesLess]
 |x::a,y::b=>by
  obtain⟨h1,h2⟩:=eW a b
  unfold Lib.compareBytes Op.bytesLess
  by_cases hxy:x<y
  ·rw[if_pos hxy]
   refine⟨by simp[hxy], ?_⟩
   constructor
   ·intro h;cases h
   ·intro h;injection h with e;subst e;exact absurd hxy (UInt8.lt_irrefl x)
  ·rw[if_neg hxy]
   by_cases hyx:y<x
   ·rw[if_pos hyx]
    have hne:x≠y:=fun e=>by subst e;exact UInt8.lt_irrefl x hyx
    refine⟨by simp[hxy,hne], ?_⟩
    constructor
    ·intro h;cases h
    ·intro h;injection h with e;exact absurd e hne
   ·rw[if_neg hyx]
    have e:x=y:=UInt8.le_antisymm (UInt8.not_lt.1 hyx) (UInt8.not_lt.1 hxy)
    subst e
    refine⟨by rw[h1];simp[UInt8.lt_irrefl],by rw[h2];simp⟩
theorem zz (s t:ByteArray):HC (OP s t) 0=ltS s t:=by
 rw[HC,OP,ltS,Bool.eq_iff_iff,decide_eq_true_iff,(eW _ _).1,Lib.toList_data,Lib.toList_data]
theorem A00 (s t:ByteArray):Af (OP s t) 0=D5 s t:=by
 rw[Af,OP,D5,Bool.eq_iff_iff,beq_iff_eq,(eW _ _).2,beq_iff_eq,Lib.toList_data,Lib.toList_data]
end TT
