import Derived.Test.YtkbbbbeagnfliaaGreatDoorTP2Tree
import Derived.Test.YtkbbbbeagnfliaaGreatDoorTP2OpOk
import Derived.Test.YtkbbbbeagnfliaaGreatDoorTP2SelTextB
import Derived.Test.YtkbbbbeagnfliaaGreatDoorTP2Fits
set_option linter.unusedVariables false
set_option linter.unusedSimpArgs false
namespace TT
open Go
def Pm (r l:List GAttr):Prop:=r.length=l.length∧r.Perm l
theorem Pm.refl (l:List GAttr):Pm l l:=⟨rfl, .refl _⟩
theorem Pm.trans {a b c:List GAttr} (h:Pm a b) (k:Pm b c):Pm a c:=⟨h.1.trans k.1,h.2.trans k.2⟩
theorem Pm.swap {l:List GAttr} {i j:Nat} (hi:i<l.length) (hj:j<l.length):Pm ((l.set i l[j]).set j l[i]) l:=
 ⟨by simp only[List.length_set],List.set_set_perm hi hj⟩
theorem nc {α:Type} {l:List α} {k:Nat} (h:k<l.length):AZ l (k:Int)=some l[k]:=by
 rw[Xj (by omega),Int.toNat_natCast,List.getElem?_eq_getElem h]
theorem xj {j:Nat} (h:j+1≤8000000):AY ((j+1:Nat):Int) 1=(j:Int):=by rw[P6 (by omega) (by omega)];omega
theorem A9Y {j:Nat} (h:j≤8000000):Ac (j:Int) 1=((j+1:Nat):Int):=by rw[Cc (by omega) (by omega)];omega
end TT
namespace TT
open Go
def Pd (r l:List GDecl):Prop:=r.length=l.length∧r.Perm l
theorem Pd.refl (l:List GDecl):Pd l l:=⟨rfl, .refl _⟩
theorem Pd.trans {a b c:List GDecl} (h:Pd a b) (k:Pd b c):Pd a c:=⟨h.1.trans k.1,h.2.trans k.2⟩
theorem Pd.swap {l:List GDecl} {i j:Nat} (hi:i<l.length) (hj:j<l.length):Pd ((l.set i l[j]).set j l[i]) l:=
 ⟨by simp only[List.length_set],List.set_set_perm hi hj⟩
theorem ADS (a b:GDecl):HY a b=some (Mw a.Pre b.Pre):=by rw[HY,strings_Compare];rfl
theorem A2l (n:Nat) (hn:n≤4000000):∀(m i:Nat) (data:List GDecl),n-i≤m→1≤i→data.length=n→i≤4000001→∃r,AS data 0 n i=some r∧Cr data i=some r∧Pd r data:=by
 intro m
 induction m with
 |zero=>
  intro i data hm ha hl hi
  exact⟨data,by rw[AS,GB (by omega)];rfl,by rw[Cr,GB (by simp only[AF];omega)];rfl,Pd.refl _⟩
 |succ m ih=>
  intro i data hm ha hl hi
  by_cases hib:i<n
  ·have inner:∀(j:Nat) (data:List GDecl),j≤i→data.length=n→∃r,AO data 0 n i j=some r∧D9 data i j=some r∧Pd r data:=by
    intro j
    induction j with
    |zero=>
     intro data hj hl
     obtain⟨r,h1,h2,h3⟩:=ih (i+1) data (by omega) (by omega) hl (by omega)
     exact⟨r,by rw[AO,ZA (by omega),A9Y (by omega)];exact h1,by rw[D9,ZA (by omega),A9Y (by omega)];exact h2,h3⟩
    |succ j jh=>
     intro data hj hl
     obtain⟨r,h1,h2,h3⟩:=ih (i+1) data (by omega) (by omega) hl (by omega)
     have g1:AZ data ((j+1:Nat):Int)=some (data[j+1]'(by omega)):=nc (by omega)
     have g0:AZ data (j:Int)=some (data[j]'(by omega)):=nc (by omega)
     have g2:AZ (data.set (j+1) (data[j]'(by omega))) (j:Int)=some ((data.set (j+1) (data[j]'(by omega)))[j]'(by rw[List.length_set];omega)):=nc (by rw[List.length_set];omega)
     have c1:=ADS (data[j+1]'(by omega)) (data[j]'(by omega))
     have cl:=A06 (data[j+1]'(by omega)).Pre (data[j]'(by omega)).Pre
     have sw:Pd ((data.set (j+1) (data[j]'(by omega))).set j (data[j+1]'(by omega))) data:=Pd.swap (by omega) (by omega)
     obtain⟨r',k1,k2,k3⟩:=jh ((data.set (j+1) (data[j]'(by omega))).set j (data[j+1]'(by omega))) (by omega) (by simp only[List.length_set];omega)
     cases hc:ltS (data[j+1]'(by omega)).Pre (data[j]'(by omega)).Pre with
     |false=>
      refine⟨r, ?_, ?_,h3⟩
      ·rw[AO,RL (by omega),xj (by omega),A9Y (by omega),g1,g0]
       simp only[if_true,A1,c1,cl,hc,bf,if_false]
       exact h1
      ·rw[D9,RL (by omega),xj (by omega),A9Y (by omega),g1,g0]
       simp only[if_true,A1,hc,bf,if_false]
       exact h2
     |true=>
      refine⟨r', ?_, ?_,k3.trans sw⟩
      ·rw[AO,RL (by omega),xj (by omega),g1,g0]
       simp only[if_true,A1,c1,cl,hc,Int.toNat_natCast,g2]
       exact k1
      ·rw[D9,RL (by omega),xj (by omega),g1,g0]
       simp only[if_true,A1,hc,Int.toNat_natCast,g2]
       exact k2
   obtain⟨r,h1,h2,h3⟩:=inner i data (Nat.le_refl _) hl
   exact⟨r,by rw[AS,P7 (by omega)];exact h1,by rw[Cr,P7 (by simp only[AF];omega)];exact h2,h3⟩
  ·exact⟨data,by rw[AS,GB (by omega)];rfl,by rw[Cr,GB (by simp only[AF];omega)];rfl,Pd.refl _⟩
set_option maxRecDepth 100000 in
theorem ACA (n:Nat) (h:n≤12):∃r,Qz (wr .u64 (n:Int))=some r:=by
 have hn:n=0∨n=1∨n=2∨n=3∨n=4∨n=5∨n=6∨n=7∨n=8∨n=9∨n=10∨n=11∨n=12:=by omega
 rcases hn with rfl|rfl|rfl|rfl|rfl|rfl|rfl|rfl|rfl|rfl|rfl|rfl|rfl<;>exact⟨_,rfl⟩
theorem ADE (l:List GDecl) (h:l.length≤12):∃r,Be l=some r∧KI l=some r∧Pd r l:=by
 obtain⟨k,hk⟩:=ACA l.length h
 obtain⟨r,h1,h2,h3⟩:=A2l l.length (by omega) (l.length-1) 1 l (Nat.le_refl _) (by omega) rfl (by omega)
 have h1':BH l 0 (AF l)=some r:=h1
 have h2':Cr l 1=some r:=h2
 have hs:∀x:List GDecl,Pd x l→rb x l=some ():=fun x hx=>by unfold rb;rw[if_pos hx.1]
 refine⟨r, ?_, ?_,h3⟩
 ·rw[Be,show wr .u64 (AF l)=wr .u64 (l.length:Int)from rfl,hk]
  simp only[A1]
  rw[Bd,BQ,show AY (AF l) 0=(l.length:Int) by rw[P6 (by simp only[AF];omega) (by simp only[AF];omega)];simp[AF],Z9 (by omega),h1']
  simp only[if_true,A1,hs r h3]
 ·rw[KI,FR (by omega) (by decide) (by decide),List.nil_append]
  exact h2'
theorem Vv {x y:Option Bool} (h:(x>>=fun r=>if r then y else some false)=some true):x=some true∧y=some true:=by
 cases x with
 |none=>cases h
 |some b=>cases b with
  |true=>exact⟨rfl,h⟩
  |false=>cases h
theorem sN {x y:Option Bool} (h:(x>>=fun r=>if r then some false else y)=some true):x=some false∧y=some true:=by
 cases x with
 |none=>cases h
 |some b=>cases b with
  |true=>cases h
  |false=>exact⟨rfl,h⟩
theorem xl {x:Option Bool} (h:(x>>=fun r=>some r)=some true):x=some true:=by
 cases x with
 |none=>cases h
 |some b=>exact h
theorem KX {b:Bool} {x:Option Bool} (h:(if b then some false else x)=some true):b=false∧x=some true:=by
 cases b with
 |true=>cases h
 |false=>exact⟨rfl,h⟩
theorem Ef {b:Bool} {x:Option Bool} (h:(if b then x else some false)=some true):b=true∧x=some true:=by
 cases b with
 |false=>cases h
 |true=>exact⟨rfl,h⟩
theorem KB {a b:Int} (h:AX a b=true):a=b:=by simpa [AX] using h
theorem A0x {n lo hi:Int} (h:I3 n lo hi=some true):lo≤n∧n≤hi:=by
 rw[I3]at h
 obtain⟨h1,h2⟩:=Ef h
 have h2:=Option.some.inj h2
 exact⟨by simpa [geI] using h1,by simpa [TG] using h2⟩
theorem A2m (o:GOp) (h:MU o=some true):o.Pos=0∧(o.Typ=6∨o.Typ=7):=by
 have j2:G6 o=some true→o.Typ=6∨o.Typ=7:=by
  intro h
  rw[G6]at h
  cases e6:AX o.Typ 6 with
  |true=>exact .inl (KB e6)
  |false=>
   rw[e6]at h
   simp only[bf,if_false]at h
   exact .inr (KB (Ef h).1)
 rw[MU]at h
 obtain⟨hp,h⟩:=KX h
 refine⟨?_, ?_⟩
 ·rw[A04]at hp
  exact KB (by simpa using hp)
 ·cases hj:BX o.Pre o.Local with
  |none=>rw[hj]at h;cases h
  |some j=>
   rw[hj,A1]at h
   obtain⟨_,h⟩:=KX h
   obtain⟨_,h⟩:=KX h
   split at h
   ·cases hg:AZ o.Kids 0 with
    |none=>rw[hg]at h;cases h
    |some x=>
     rw[hg,A1]at h
     exact j2 (KX h).2
   ·exact j2 h
def AA0 (o:GOp):Prop:=(o.Kind=1∧o.Ws=0∧0≤o.Pos∧o.Pos≤3∧o.Typ=0)∨(o.Kind=1∧o.Ws=0∧o.Pos=0∧(o.Typ=6∨o.Typ=7))∨(o.Kind=2∧o.Ws=0∧o.Pos=0∧o.Typ=0)∨(o.Kind=3∧0≤o.Ws∧o.Ws≤3∧o.Pos=0∧o.Typ=0)
theorem nd (o:GOp) (b:Bool) (hb:b=true→o.Typ=0) (h:CQ b o=some true):AA0 o:=by
 rw[CQ]at h
 cases e1:AX o.Kind 1 with
 |true=>
  rw[e1]at h
  obtain⟨hw,h⟩:=Ef h
  obtain⟨hp,h⟩:=Vv h
  obtain⟨p1,p2⟩:=A0x hp
  cases b with
  |true=>exact .inl ⟨KB e1,KB hw,p1,p2,hb rfl⟩
  |false=>
   obtain⟨t1,t2⟩:=A2m o (xl h)
   exact .inr (.inl ⟨KB e1,KB hw,t1,t2⟩)
 |false=>
  rw[e1]at h
  simp only[bf,if_false]at h
  cases e2:AX o.Kind 2 with
  |true=>
   rw[e2]at h
   obtain⟨hw,h⟩:=Ef h
   obtain⟨hp,h⟩:=Ef h
   exact .inr (.inr (.inl ⟨KB e2,KB hw,KB hp,hb (Option.some.inj h)⟩))
  |false=>
   rw[e2]at h
   simp only[bf,if_false]at h
   obtain⟨e3,h⟩:=Ef h
   obtain⟨hw,h⟩:=Vv h
   obtain⟨hp,h⟩:=Ef h
   obtain⟨hb',_⟩:=Ef h
   obtain⟨w1,w2⟩:=A0x hw
   exact .inr (.inr (.inr ⟨KB e3,w1,w2,KB hp,hb hb'⟩))
theorem A6U (d:GDecl) (h:Hl d=some true):d.Uri.size≤40:=by
 rw[Hl]at h
 have h:=xl (Vv h).2
 rw[JD]at h
 have h:=(Ef (Vv h).2).1
 have:=show AL d.Uri≤40 by simpa [TG] using h
 simp only[AL]at this
 omega
theorem A9Z (o:GOp) (hs:o.sz≤1048576) (h:MV o=some true):AA0 o∧o.Decls.length≤8∧twB [] o.Decls=false∧∀d∈o.Decls,d.Uri.size≤40:=by
 have hz:=GOp.sz_eq o
 rw[MV]at h
 obtain⟨_,h⟩:=Vv h
 obtain⟨h8,h⟩:=KX h
 obtain⟨ht,h⟩:=sN h
 obtain⟨hd,h⟩:=sN h
 obtain⟨_,h⟩:=Vv h
 have b1:=uy o.Decls (by omega) o.Decls [] rfl
 have b1':KK o.Decls=some (twB [] o.Decls):=b1
 obtain⟨r,c1,c2⟩:=d7 o.Decls (by omega) (fun d hm=>by have:=BA GDecl.sz hm;omega) o.Decls [] rfl
 have c1':An o.Decls 0=some r:=c1
 rw[Bn,CJ,c1',A1,c2]at hd
 have hall:=Option.some.inj hd
 rw[b1']at ht
 refine⟨?_, ?_,Option.some.inj ht,fun d hm=> ?_⟩
 ·split at h
  ·rename_i e0
   split at h
   ·exact nd o _ (fun _=>KB e0) h
   ·exact nd o _ (fun hb=>by cases hb) h
  ·exact nd o _ (fun hb=>by cases hb) h
 ·by_cases e:o.Decls.length≤8
  ·exact e
  ·rw[RL (by simp only[AF];omega)]at h8;cases h8
 ·have ha:o.Decls.all Vt=true:=by simpa using hall
  have:=List.all_eq_true.1 ha d hm
  exact A6U d (by rw[gJ d (by have:=BA GDecl.sz hm;omega),this])
theorem A6V : ∀ (rest pre:List GDecl),twB pre rest=false→(∀x∈rest,∀y∈rest,x.Pre=y.Pre→x=y)∧∀x∈rest,∀y∈pre,y.Pre≠x.Pre
 | [],pre,_=>⟨fun x h=>absurd h List.not_mem_nil,fun x h=>absurd h List.not_mem_nil⟩
 |x::rest,pre,h=>by
  rw[twB,Bool.or_eq_false_iff]at h
  obtain⟨h1,h2⟩:=h
  obtain⟨g1,g2⟩:=A6V rest (pre++[x]) h2
  have hx:∀y∈pre,y.Pre≠x.Pre:=fun y hy e=>by
   have:=List.any_eq_false.1 h1 y hy
   exact this (T9.2 e)
  refine⟨fun a ha b hb e=> ?_,fun a ha y hy=> ?_⟩
  ·rcases List.mem_cons.1 ha with ea|ha'
   ·rcases List.mem_cons.1 hb with eb|hb'
    ·rw[ea,eb]
    ·rw[ea]at e
     exact absurd e (g2 b hb' x (by simp))
   ·rcases List.mem_cons.1 hb with eb|hb'
    ·rw[eb]at e
     exact absurd e.symm (g2 a ha' x (by simp))
    ·exact g1 a ha' b hb' e
  ·rcases List.mem_cons.1 ha with ea|ha'
   ·rw[ea];exact hx y hy
   ·exact g2 a ha' y (by simp[hy])
theorem A0J (a b:List GDecl) (hp:a.Perm b) (hd:∀x∈b,∀y∈b,x.Pre=y.Pre→x=y) (p:ByteArray):BE (prs a) p=BE (prs b) p:=by
 have fnd:∀(l:List GDecl) q,((prs l).reverse.find? fun x=>decide (x.1=p))=some q→∃d∈l,d.Pre=p∧q=(d.Pre,d.Uri):=by
  intro l q h
  have h1:=List.find?_some h
  have h2:=List.mem_of_find?_eq_some h
  rw[List.mem_reverse]at h2
  obtain⟨d,hd,rfl⟩:=List.mem_map.1 h2
  exact⟨d,hd,by simpa using h1,rfl⟩
 have non:∀(l:List GDecl),((prs l).reverse.find? fun x=>decide (x.1=p))=none→∀d∈l,d.Pre≠p:=by
  intro l h d hd e
  have:=List.find?_eq_none.1 h (d.Pre,d.Uri) (by rw[List.mem_reverse];exact List.mem_map.2 ⟨d,hd,rfl⟩)
  simp[e]at this
 unfold BE
 cases ha:(prs a).reverse.find? fun x=>decide (x.1=p)with
 |some q=>
  obtain⟨d,hda,hdp,rfl⟩:=fnd a q ha
  cases hb:(prs b).reverse.find? fun x=>decide (x.1=p)with
  |some q'=>
   obtain⟨d',hdb,hdp',rfl⟩:=fnd b q' hb
   rw[hd d (hp.mem_iff.1 hda) d' hdb (hdp.trans hdp'.symm)]
  |none=>exact absurd hdp (non b hb d (hp.mem_iff.1 hda))
 |none=>
  cases hb:(prs b).reverse.find? fun x=>decide (x.1=p)with
  |some q'=>
   obtain⟨d',hdb,hdp',rfl⟩:=fnd b q' hb
   exact absurd hdp' (non a ha d' (hp.mem_iff.2 hdb))
  |none=>rfl
theorem A6W (l:List GDecl) (h:∀d∈l,d.Uri.size≤40) (p:ByteArray):(BE (prs l) p).1.size≤40:=by
 unfold BE
 cases ha:(prs l).reverse.find? fun x=>decide (x.1=p)with
 |none=>exact Nat.zero_le _
 |some q=>
  have h2:=List.mem_of_find?_eq_some ha
  rw[List.mem_reverse]at h2
  obtain⟨d,hd,rfl⟩:=List.mem_map.1 h2
  exact h d hd
end TT
