import Derived.Test.YtkbbbbeagnfliaaGreatDoorTP2SelTextB
import Derived.Lib.Replace
import Derived.Lib.SplitLaws
set_option linter.unusedVariables false
set_option linter.unusedSimpArgs false
namespace TT
open Go
theorem P9 {x y:ByteArray} (h:x.data.toList=y.data.toList):x=y:=by
 cases x;cases y
 congr 1
 exact Array.toList_inj.1 h
theorem A0w (c:UInt8) (N:List UInt8):∀(l:List UInt8),Lib.replaceK [c] N (Lib.count l [c]) l=l.flatMap fun b=>if b=c then N else[b]
 | []=>by
  have:Lib.count [] [c]=0:=by rw[Lib.count_one];rfl
  rw[this];rfl
 |b::l=>by
  have ih:=A0w c N l
  by_cases hb:b=c
  ·subst hb
   rw[Lib.count_cons_eq,Nat.add_comm,List.flatMap_cons,if_pos rfl]
   have h0:Lib.index (b::l) [b]=((0:Nat):Int):=Lib.index_first (by simp) (by simp[Lib.occAt,List.isPrefixOf]) fun j hj=>by omega
   rw[Lib.replaceK_hit _ _ _ _ 0 h0]
   simp only[List.take_zero,List.nil_append,Nat.zero_add,List.length_singleton,List.drop_succ_cons,List.drop_zero,ih]
  ·rw[Lib.count_cons_ne b c l hb,List.flatMap_cons,if_neg hb]
   cases hk:Lib.count l [c]with
   |zero=>
    rw[hk]at ih
    rw[←ih];rfl
   |succ k=>
    obtain⟨i,hi⟩:=Lib.index_of_count (s:=l) (old:=[c]) (by omega)
    have hi':Lib.index (b::l) [c]=((i+1:Nat):Int):=by
     rcases Lib.index_spec l [c]with ⟨h,_⟩|⟨i',h1,h2,h3,h4⟩
     ·omega
     ·have e:i'=i:=by omega
      subst e
      refine Lib.index_first (by simp;omega) (by simpa [Lib.occAt] using h3) fun j hj=> ?_
      cases j with
      |zero=>simp[Lib.occAt,List.isPrefixOf];intro e;exact absurd e.symm hb
      |succ j=>have:=h4 j (by omega);simpa [Lib.occAt] using this
    rw[hk]at ih
    rw[Lib.replaceK_hit _ _ _ _ _ hi']
    rw[Lib.replaceK_hit _ _ _ _ _ hi]at ih
    rw[←ih]
    simp
def RR (l:List UInt8):ByteArray:=⟨l.toArray⟩
theorem ZF (l:List UInt8):(RR l).size=l.length:=by show l.toArray.size=_;simp
theorem A6Q (s:ByteArray):RR s.data.toList=s:=P9 rfl
theorem A9V (a b:List UInt8):RR a++RR b=RR (a++b):=P9 (by rw[ByteArray.data_append,Array.toList_append];rfl)
def rp (c:UInt8) (N:List UInt8) (b:UInt8):List UInt8:=if b=c then N else[b]
theorem A2k (l:List UInt8) (c:UInt8) (N:List UInt8) (hN:N≠[c]):rf (RR l) (RR [c]) (RR N)=RR (l.flatMap (rp c N)):=by
 unfold rf
 show RR (Lib.replaceAll l [c] N)=_
 congr 1
 unfold Lib.replaceAll Lib.replace
 have h1:([c]==N)=false:=by
  cases h:[c]==N with
  |false=>rfl
  |true=>exact absurd (beq_iff_eq.1 h).symm hN
 rw[h1]
 have h2:Lib.replaceNum l [c] (-1)=Lib.count l [c]:=by unfold Lib.replaceNum;rw[if_pos (.inl (by decide))]
 rw[h2]
 exact A0w c N l
theorem JN {f:UInt8→List UInt8} {k:Nat} (hf:∀b,(f b).length≤k):∀l:List UInt8,(l.flatMap f).length≤k*l.length
 | []=>by simp
 |b::l=>by
  have:=JN hf l
  have:=hf b
  simp only[List.flatMap_cons,List.length_append,List.length_cons,Nat.mul_succ]
  omega
theorem nZ (c:UInt8) (N:List UInt8) (k:Nat) (h1:1≤k) (hN:N.length≤k) (b:UInt8):(rp c N b).length≤k:=by
 unfold rp
 split
 ·exact hN
 ·exact h1
theorem Wb (l:List UInt8) (c:UInt8) (N:List UInt8) (hN:N≠[c]) (hl:l.length≤600000000) (hn:N.length≤6):strings_ReplaceAll (RR l) (RR [c]) (RR N)=some (RR (l.flatMap (rp c N))):=by
 have h1:1≤(RR [c]).size:=Nat.le_refl 1
 have hc:Lib.countB (RR l) (RR [c])≤(RR l).size:=Lib.countB_le (RR [c]) h1 (RR l).size (RR l) (Nat.le_refl _)
 have hz:=ZF l
 have h2:Lib.countB (RR l) (RR [c])*(RR N).size≤l.length*6:=Nat.mul_le_mul (by omega) (by rw[ZF];exact hn)
 rw[strings_ReplaceAll,if_pos ⟨by omega,h1,by omega⟩,A2k l c N hN]
def esB (attr:Bool) (b:UInt8):List UInt8:=
 if b=38 then[38,97,109,112,59]else if b=60 then[38,108,116,59]else if b=62 then[38,103,116,59]else if b=13 then[38,35,49,51,59]else
 if attr&&b==34 then[38,113,117,111,116,59]else if attr&&b==9 then[38,35,57,59]else if attr&&b==10 then[38,35,49,48,59]else[b]
theorem A0I {p:UInt8→Prop} (h:∀n:Fin 256,p (UInt8.ofNat n.val)) (b:UInt8):p b:=by
 have:=h ⟨b.toNat,b.toNat_lt⟩
 simpa using this
theorem A6R (b:UInt8):(((rp 38 [38,97,109,112,59] b).flatMap (rp 60 [38,108,116,59])).flatMap (rp 62 [38,103,116,59])).flatMap (rp 13 [38,35,49,51,59])=esB false b:=
 A0I (p:=fun b=>(((rp 38 [38,97,109,112,59] b).flatMap (rp 60 [38,108,116,59])).flatMap (rp 62 [38,103,116,59])).flatMap (rp 13 [38,35,49,51,59])=esB false b) (by decide+kernel) b
theorem A6S (b:UInt8):(((esB false b).flatMap (rp 34 [38,113,117,111,116,59])).flatMap (rp 9 [38,35,57,59])).flatMap (rp 10 [38,35,49,48,59])=esB true b:=
 A0I (p:=fun b=>(((esB false b).flatMap (rp 34 [38,113,117,111,116,59])).flatMap (rp 9 [38,35,57,59])).flatMap (rp 10 [38,35,49,48,59])=esB true b) (by decide+kernel) b
theorem uz (attr:Bool) (b:UInt8):(esB attr b).length≤6:=by
 exact A0I (p:=fun b=>(esB attr b).length≤6) (by cases attr<;>decide+kernel) b
def esc (attr:Bool) (s:ByteArray):ByteArray:=RR (s.data.toList.flatMap (esB attr))
theorem ZG (attr:Bool) (s:ByteArray):(esc attr s).size≤6*s.size:=by
 unfold esc
 rw[ZF]
 have:=JN (uz attr) s.data.toList
 rw[PE]at this
 exact this
theorem ew (s:ByteArray) (hs:s.size≤1200000):Jn s=some (esc false s):=by
 have hl:s.data.toList.length≤1200000:=by rw[PE];exact hs
 have f1:=JN (nZ 38 [38,97,109,112,59] 6 (by decide) (by decide)) s.data.toList
 have f2:=JN (nZ 60 [38,108,116,59] 6 (by decide) (by decide)) (s.data.toList.flatMap (rp 38 [38,97,109,112,59]))
 have f3:=JN (nZ 62 [38,103,116,59] 6 (by decide) (by decide)) ((s.data.toList.flatMap (rp 38 [38,97,109,112,59])).flatMap (rp 60 [38,108,116,59]))
 have r1:=Wb s.data.toList 38 [38,97,109,112,59] (by decide) (by omega) (by decide)
 have r2:=Wb (s.data.toList.flatMap (rp 38 [38,97,109,112,59])) 60 [38,108,116,59] (by decide) (by omega) (by decide)
 have r3:=Wb ((s.data.toList.flatMap (rp 38 [38,97,109,112,59])).flatMap (rp 60 [38,108,116,59])) 62 [38,103,116,59] (by decide) (by omega) (by decide)
 have r4:=Wb (((s.data.toList.flatMap (rp 38 [38,97,109,112,59])).flatMap (rp 60 [38,108,116,59])).flatMap (rp 62 [38,103,116,59])) 13 [38,35,49,51,59] (by decide) (by omega) (by decide)
 rw[A6Q]at r1
 have e:esc false s=RR ((((s.data.toList.flatMap (rp 38 [38,97,109,112,59])).flatMap (rp 60 [38,108,116,59])).flatMap (rp 62 [38,103,116,59])).flatMap (rp 13 [38,35,49,51,59])):=by
  unfold esc
  congr 1
  rw[List.flatMap_assoc,List.flatMap_assoc,List.flatMap_assoc]
  congr 1
  funext b
  rw[←A6R b,List.flatMap_assoc,List.flatMap_assoc]
 rw[Jn]
 show(strings_ReplaceAll s (RR [38]) (RR [38,97,109,112,59])>>=fun r=>strings_ReplaceAll r (RR [60]) (RR [38,108,116,59])>>=fun r1=>strings_ReplaceAll r1 (RR [62]) (RR [38,103,116,59])>>=fun r2=>strings_ReplaceAll r2 (RR [13]) (RR [38,35,49,51,59])>>=fun r3=>some r3)=_
 rw[r1]
 simp only[A1]
 rw[r2]
 simp only[A1]
 rw[r3]
 simp only[A1]
 rw[r4]
 simp only[A1]
 rw[e]
theorem Wc (s:ByteArray) (hs:s.size≤1200000):I6 s=some (esc true s):=by
 have hl:s.data.toList.length≤1200000:=by rw[PE];exact hs
 have f0:=JN (uz false) s.data.toList
 have f1:=JN (nZ 34 [38,113,117,111,116,59] 6 (by decide) (by decide)) (s.data.toList.flatMap (esB false))
 have f2:=JN (nZ 9 [38,35,57,59] 6 (by decide) (by decide)) ((s.data.toList.flatMap (esB false)).flatMap (rp 34 [38,113,117,111,116,59]))
 have r1:=Wb (s.data.toList.flatMap (esB false)) 34 [38,113,117,111,116,59] (by decide) (by omega) (by decide)
 have r2:=Wb ((s.data.toList.flatMap (esB false)).flatMap (rp 34 [38,113,117,111,116,59])) 9 [38,35,57,59] (by decide) (by omega) (by decide)
 have r3:=Wb (((s.data.toList.flatMap (esB false)).flatMap (rp 34 [38,113,117,111,116,59])).flatMap (rp 9 [38,35,57,59])) 10 [38,35,49,48,59] (by decide) (by omega) (by decide)
 have e:esc true s=RR ((((s.data.toList.flatMap (esB false)).flatMap (rp 34 [38,113,117,111,116,59])).flatMap (rp 9 [38,35,57,59])).flatMap (rp 10 [38,35,49,48,59])):=by
  unfold esc
  congr 1
  rw[List.flatMap_assoc,List.flatMap_assoc,List.flatMap_assoc]
  congr 1
  funext b
  rw[←A6S b,List.flatMap_assoc,List.flatMap_assoc]
 rw[I6,ew s hs]
 show(strings_ReplaceAll (RR (s.data.toList.flatMap (esB false))) (RR [34]) (RR [38,113,117,111,116,59])>>=fun r1=>strings_ReplaceAll r1 (RR [9]) (RR [38,35,57,59])>>=fun r2=>strings_ReplaceAll r2 (RR [10]) (RR [38,35,49,48,59])>>=fun r3=>some r3)=_
 rw[r1]
 simp only[A1]
 rw[r2]
 simp only[A1]
 rw[r3]
 simp only[A1]
 rw[e]
end TT
namespace TT
open Go
theorem A6T (s:ByteArray) (i k:Nat):(s.extract i k).data.toList=(s.data.toList.drop i).take (k-i):=by
 rw[←Lib.toList_data,nJ]
theorem AC8 (s:ByteArray) {a b:Nat} (h1:a≤b) (h2:b≤s.size):PC s (a:Int) (b:Int)=some (s.extract a b):=by
 unfold PC
 rw[if_pos ⟨by omega,by omega,by omega⟩]
 simp
theorem eqU (b k:UInt8):AX (b.toNat:Int) (k.toNat:Int)=(b==k):=by
 rw[Bool.eq_iff_iff,ZW,beq_iff_eq]
 constructor
 ·intro h;exact UInt8.toNat_inj.1 (by omega)
 ·intro h;rw[h]
theorem A9W {s:ByteArray} {pre rest:List UInt8} {b:UInt8} (h:pre++b::rest=s.data.toList):pre.length<s.size∧KA s pre.length=b.toNat∧s.extract pre.length (pre.length+1)=RR [b]:=by
 have hlen:pre.length<s.data.toList.length:=by rw[←h];simp
 have hlt:pre.length<s.size:=by rw[PE]at hlen;exact hlen
 have hg:s.data.toList[pre.length]? =some b:=by rw[←h];simp
 refine⟨hlt, ?_, ?_⟩
 ·show(s.data[pre.length]!).toNat=_
  have h':pre.length<s.data.size:=hlt
  rw[getElem!_pos s.data pre.length h']
  have:s.data[pre.length]=b:=by
   rw[List.getElem?_eq_getElem hlen]at hg
   rw[←Array.getElem_toList]
   exact Option.some.inj hg
  rw[this]
 ·apply P9
  rw[A6T,←h]
  simp[RR]
theorem A9X {x y:ByteArray} (h:x.size+y.size≤4000000000):Af x y=some (x++y):=by unfold Af;rw[if_pos (by omega)]
theorem AC9 (a b:List UInt8) (h:a.length+b.length≤4000000000):Af (RR a) (RR b)=some (RR (a++b)):=by
 rw[A9X (by rw[ZF,ZF];exact h),A9V]
theorem ez (s:ByteArray) (attr:Bool) (hs:s.size≤1200000):∀(rest pre o:List UInt8),pre++rest=s.data.toList→o.length≤6*pre.length→BJ s attr (RR o) (pre.length:Int)=some (RR (o++rest.flatMap (esB attr)))
 | [],pre,o,h,ho=>by
  have hlen:pre.length=s.size:=by rw[←PE,←h];simp
  rw[BJ,GB (by simp only[AL];omega),if_neg Bool.false_ne_true]
  simp
 |b::rest,pre,o,h,ho=>by
  obtain⟨h1,h2,h3⟩:=A9W h
  have hl:=uz attr b
  have ih:=fun(o':List UInt8) (h:o'.length≤6*(pre.length+1))=>ez s attr hs rest (pre++[b]) o' (by rw[← ‹pre++b::rest=s.data.toList›];simp) (by simpa using h)
  have ea:Ac (pre.length:Int) 1=((pre.length+1:Nat):Int):=by rw[Cc (by omega) (by omega)];omega
  have hstep:∀o':List UInt8,o'=esB attr b→(Af (RR o) (RR o')>>=fun x=>BJ s attr x (Ac (pre.length:Int) 1))=some (RR (o++(b::rest).flatMap (esB attr))):=fun o' e=>by
   have hlen:(o++o').length≤6*(pre.length+1):=by rw[List.length_append,e];omega
   rw[AC9 _ _ (by rw[e];omega)]
   simp only[A1]
   have:=ih (o++o') hlen
   rw[List.length_append,List.length_singleton]at this
   rw[ea,this,List.flatMap_cons,e,List.append_assoc]
  rw[BJ,P7 (by simp only[AL];omega),if_pos rfl,ea,AC8 s (by omega) (by omega),h3,VK rfl h1,h2]
  simp only[A1]
  rw[←ea]
  have k38:AX (b.toNat:Int) 38=(b==38):=eqU b 38
  have k60:AX (b.toNat:Int) 60=(b==60):=eqU b 60
  have k62:AX (b.toNat:Int) 62=(b==62):=eqU b 62
  have k13:AX (b.toNat:Int) 13=(b==13):=eqU b 13
  have k34:AX (b.toNat:Int) 34=(b==34):=eqU b 34
  have k9:AX (b.toNat:Int) 9=(b==9):=eqU b 9
  have k10:AX (b.toNat:Int) 10=(b==10):=eqU b 10
  rw[k38,k60,k62,k13,k34,k9,k10]
  by_cases c1:b=38
  ·subst c1;exact hstep [38,97,109,112,59] (by cases attr<;>rfl)
  by_cases c2:b=60
  ·subst c2;exact hstep [38,108,116,59] (by cases attr<;>rfl)
  by_cases c3:b=62
  ·subst c3;exact hstep [38,103,116,59] (by cases attr<;>rfl)
  by_cases c4:b=13
  ·subst c4;exact hstep [38,35,49,51,59] (by cases attr<;>rfl)
  have n1:(b==38)=false:=by simpa using c1
  have n2:(b==60)=false:=by simpa using c2
  have n3:(b==62)=false:=by simpa using c3
  have n4:(b==13)=false:=by simpa using c4
  rw[n1,n2,n3,n4]
  simp only[bf,if_false]
  by_cases c5:b=34
  ·subst c5
   cases attr with
   |true=>exact hstep [38,113,117,111,116,59] rfl
   |false=>exact hstep [34] rfl
  by_cases c6:b=9
  ·subst c6
   cases attr with
   |true=>exact hstep [38,35,57,59] rfl
   |false=>exact hstep [9] rfl
  by_cases c7:b=10
  ·subst c7
   cases attr with
   |true=>exact hstep [38,35,49,48,59] rfl
   |false=>exact hstep [10] rfl
  have n5:(b==34)=false:=by simpa using c5
  have n6:(b==9)=false:=by simpa using c6
  have n7:(b==10)=false:=by simpa using c7
  rw[n5,n6,n7]
  simp only[bf,if_false]
  exact hstep [b] (by unfold esB;rw[if_neg c1,if_neg c2,if_neg c3,if_neg c4,n5,n6,n7];cases attr<;>rfl)
theorem xi (s:ByteArray) (attr:Bool) (hs:s.size≤1200000):Pv s attr=some (esc attr s):=by
 rw[Pv]
 exact ez s attr hs s.data.toList [] [] rfl (Nat.zero_le _)
theorem vA (s:ByteArray) (hs:s.size≤1200000):Og s=some (esc false s):=by rw[Og,xi s false hs];rfl
theorem f9 (s:ByteArray) (hs:s.size≤1200000):Ji s=some (esc true s):=by rw[Ji,xi s true hs];rfl
end TT
