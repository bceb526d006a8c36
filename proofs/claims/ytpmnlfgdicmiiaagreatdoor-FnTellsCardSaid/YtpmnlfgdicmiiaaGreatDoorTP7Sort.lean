import Derived.Test.YtpmnlfgdicmiiaaGreatDoorTP2Tree
set_option linter.unusedVariables false
set_option linter.unusedSimpArgs false
namespace TT
open Go
def Pm (r l:List A5):Prop:=r.length=l.length∧r.Perm l
theorem Pm.refl (l:List A5):Pm l l:=⟨rfl, .refl _⟩
theorem Pm.trans {a b c:List A5} (h:Pm a b) (k:Pm b c):Pm a c:=⟨h.1.trans k.1,h.2.trans k.2⟩
theorem Pm.swap {l:List A5} {i j:Nat} (hi:i<l.length) (hj:j<l.length):Pm ((l.set i l[j]).set j l[i]) l:=
 ⟨by simp only[List.length_set],List.set_set_perm hi hj⟩
theorem WQ {α:Type} {l:List α} {k:Nat} (h:k<l.length):getI l (k:Int)=some l[k]:=by
 rw[Y4 (by omega),Int.toNat_natCast,List.getElem?_eq_getElem h]
theorem zR {j:Nat} (h:j+1≤8000000):Cq ((j+1:Nat):Int) 1=(j:Int):=by rw[E7 (by omega) (by omega)];omega
theorem A8e {j:Nat} (h:j≤8000000):Af (j:Int) 1=((j+1:Nat):Int):=by rw[Bk (by omega) (by omega)];omega
end TT
namespace TT
open Go
def Pl (r l:List (List Int)):Prop:=r.length=l.length∧r.Perm l
theorem Pl.refl (l:List (List Int)):Pl l l:=⟨rfl, .refl _⟩
theorem Pl.trans {a b c:List (List Int)} (h:Pl a b) (k:Pl b c):Pl a c:=⟨h.1.trans k.1,h.2.trans k.2⟩
theorem Pl.swap {l:List (List Int)} {i j:Nat} (hi:i<l.length) (hj:j<l.length):Pl ((l.set i l[j]).set j l[i]) l:=
 ⟨by simp only[List.length_set],List.set_set_perm hi hj⟩
def Sml (l:List (List Int)):Prop:=∀p∈l,p.length≤4000000
theorem Sml.of {r l:List (List Int)} (h:Sml l) (k:Pl r l):Sml r:=fun p hp=>h p (k.2.mem_iff.1 hp)
theorem A5c (x y:Int):∃c,Jk x y=some c:=by
 simp only[Jk,M5,A3]
 split
 ·split<;>exact⟨_,rfl⟩
 ·split
  ·exact⟨_,rfl⟩
  ·split
   ·exact⟨_,rfl⟩
   ·split<;>exact⟨_,rfl⟩
theorem qm (a b:List Int) (ha:a.length≤4000000) (hb:b.length≤4000000):∀rest pre:List Int,pre++rest=a→∃c,C7 a b pre.length=some c
 | [],pre,hp=>by
  rw[C7,Cj hp]
  simp only[bf,if_false]
  split<;>exact⟨_,rfl⟩
 |x::rest,pre,hp=>by
  obtain⟨c,h⟩:=qm a b ha hb rest (pre++[x]) (Bh hp)
  rw[C7,Bx hp,BS hp,Bm hp (by rw[Aq];omega)]
  simp only[if_true,A3]
  by_cases e:pre.length<b.length
  ·rw[Ut (by simp only[AD];omega),WQ e]
   obtain⟨c2,h2⟩:=A5c x b[pre.length]
   simp only[bf,if_false,A3,h2]
   split
   ·exact⟨_,rfl⟩
   ·exact⟨c,h⟩
  ·rw[PV (by simp only[AD];omega)]
   exact⟨_,rfl⟩
theorem A5d (a b:List Int) (ha:a.length≤4000000) (hb:b.length≤4000000):∃c,Gm a b=some c:=by
 obtain⟨c,h⟩:=qm a b ha hb a [] rfl
 have h':C7 a b 0=some c:=h
 rw[Gm,JV,h']
 exact⟨c,rfl⟩
theorem A23 (a b:Nat):∀(m i:Nat) (data:List (List Int)),b-i≤m→a<i→b≤data.length→data.length≤4000000→Sml data→i≤4000001→∃r,AQ data a b i=some r∧Pl r data:=by
 intro m
 induction m with
 |zero=>
  intro i data hm ha hb hl hd hi
  exact⟨data,by rw[AQ,Hr (by omega)];rfl,Pl.refl _⟩
 |succ m ih=>
  intro i data hm ha hb hl hd hi
  by_cases hib:i<b
  ·have inner:∀(j:Nat) (data:List (List Int)),j≤i→b≤data.length→data.length≤4000000→Sml data→∃r,AM data a b i j=some r∧Pl r data:=by
    intro j
    induction j with
    |zero=>
     intro data hj hb hl hd
     obtain⟨r,h1,h2⟩:=ih (i+1) data (by omega) (by omega) hb hl hd (by omega)
     exact⟨r,by rw[AM,WJ (by omega),A8e (by omega)];exact h1,h2⟩
    |succ j jh=>
     intro data hj hb hl hd
     obtain⟨r,h1,h2⟩:=ih (i+1) data (by omega) (by omega) hb hl hd (by omega)
     by_cases hja:a<j+1
     ·have g1:getI data ((j+1:Nat):Int)=some (data[j+1]'(by omega)):=WQ (by omega)
      have g0:getI data (j:Int)=some (data[j]'(by omega)):=WQ (by omega)
      have g2:getI (data.set (j+1) (data[j]'(by omega))) (j:Int)=some ((data.set (j+1) (data[j]'(by omega)))[j]'(by rw[List.length_set];omega)):=WQ (by rw[List.length_set];omega)
      obtain⟨c,c1⟩:=A5d (data[j+1]'(by omega)) (data[j]'(by omega)) (hd _ (List.getElem_mem _)) (hd _ (List.getElem_mem _))
      have sw:Pl ((data.set (j+1) (data[j]'(by omega))).set j (data[j+1]'(by omega))) data:=Pl.swap (by omega) (by omega)
      obtain⟨r',k1,k2⟩:=jh ((data.set (j+1) (data[j]'(by omega))).set j (data[j+1]'(by omega))) (by omega) (by simp only[List.length_set];omega) (by simp only[List.length_set];omega) (hd.of sw)
      cases hc:H5 c 0 with
      |false=>
       refine⟨r, ?_,h2⟩
       rw[AM,Rf (by omega),zR (by omega),A8e (by omega),g1,g0]
       simp only[if_true,A3,c1,hc,bf,if_false]
       exact h1
      |true=>
       refine⟨r', ?_,k2.trans sw⟩
       rw[AM,Rf (by omega),zR (by omega),g1,g0]
       simp only[if_true,A3,c1,hc,Int.toNat_natCast,g2]
       exact k1
     ·refine⟨r, ?_,h2⟩
      rw[AM,WJ (by omega),A8e (by omega)];exact h1
   obtain⟨r,h1,h2⟩:=inner i data (Nat.le_refl _) hb hl hd
   exact⟨r,by rw[AQ,Sq (by omega)];exact h1,h2⟩
  ·exact⟨data,by rw[AQ,Hr (by omega)];rfl,Pl.refl _⟩
set_option maxRecDepth 100000 in
theorem ABD (n:Nat) (h:n≤12):∃r,R6 (wr .u64 (n:Int))=some r:=by
 have hn:n=0∨n=1∨n=2∨n=3∨n=4∨n=5∨n=6∨n=7∨n=8∨n=9∨n=10∨n=11∨n=12:=by omega
 rcases hn with rfl|rfl|rfl|rfl|rfl|rfl|rfl|rfl|rfl|rfl|rfl|rfl|rfl<;>exact⟨_,rfl⟩
theorem ACF (l:List (List Int)) (h:l.length≤12) (hl:Sml l):∃r,Bq l=some r∧Pl r l:=by
 obtain⟨k,hk⟩:=ABD l.length h
 obtain⟨r,h1,h2⟩:=A23 0 l.length (l.length-1) 1 l (Nat.le_refl _) (by omega) (Nat.le_refl _) (by omega) hl (by omega)
 have h1':BR l 0 (AD l)=some r:=h1
 have hs:∀x:List (List Int),Pl x l→cz x l=some ():=fun x hx=>by unfold cz;rw[if_pos hx.1]
 refine⟨r, ?_,h2⟩
 rw[Bq,show wr .u64 (AD l)=wr .u64 (l.length:Int)from rfl,hk]
 simp only[A3]
 rw[Bt,Ba,show Cq (AD l) 0=(l.length:Int) by rw[E7 (by simp only[AD];omega) (by simp only[AD];omega)];simp[AD],Ss (by omega),h1']
 simp only[if_true,A3,hs r h2]
end TT
