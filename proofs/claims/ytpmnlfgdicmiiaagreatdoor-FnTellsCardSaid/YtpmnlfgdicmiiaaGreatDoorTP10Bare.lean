import Derived.Test.YtpmnlfgdicmiiaaGreatDoorTP2Tree
import Derived.Test.YtpmnlfgdicmiiaaGreatDoorTP3Merge
import Derived.Test.YtpmnlfgdicmiiaaGreatDoorTP3Same
import Derived.Test.YtpmnlfgdicmiiaaGreatDoorTP10Path
set_option linter.unusedVariables false
set_option linter.unusedSimpArgs false
namespace TT
open Go
abbrev nA : A0:=A0.mk 1 (⟨#[]⟩) (⟨#[97]⟩) (⟨#[]⟩) [] [] [] (⟨#[]⟩)
abbrev nD : A0:=A0.mk 0 (⟨#[]⟩) (⟨#[]⟩) (⟨#[]⟩) [] [] [nA] (⟨#[]⟩)
theorem ACG : CX nA=some 1:=by rw[CX,BM];rfl
theorem ACH : CX nD=some 2:=by
 rw[CX,BM]
 show(CX nA>>=fun r1=>BM (Af 1 r1) 1 nD)=_
 rw[ACG]
 show BM 2 1 nD=_
 rw[BM];rfl
theorem A9A : EP 97=some true:=by
 rw[EP,FI]
 have e:∀l:List Int,l=[65,90,95,95,97,122,192,214,216,246,248,767,880,893,895,8191,8204,8205,8304,8591,11264,12271,12289,55295,63744,64975,65008,65533,65536,983039]→BE 97 l 0=some true:=by
  intro l hl
  rw[BE,hl]
  show BE 97 _ 2=_
  rw[BE]
  show BE 97 _ 4=_
  rw[BE]
  rfl
 rw[e _ rfl];rfl
theorem ACI : FS 97=some true:=by
 rw[FS,A9A];rfl
theorem ACJ : BQ ⟨#[97]⟩=some true:=by
 rw[BQ]
 show B6 ⟨#[97]⟩ 0=_
 rw[B6]
 have e:G9 ⟨#[97]⟩ 0=some (97,1,true):=by rw[G9];rfl
 rw[e]
 show(EP 97>>=fun r6=>if r6 then FS 97>>=fun r7=>if r7 then B6 ⟨#[97]⟩ 1 else some false else some false)=_
 rw[A9A,ACI]
 show B6 ⟨#[97]⟩ 1=_
 rw[B6];rfl
theorem ACK : Bv ⟨#[]⟩=some true:=by
 rw[Bv]
 have e:HU ⟨#[]⟩=some true:=by rw[HU,CC];rfl
 rw[e];rfl
theorem ACL : Dc nA=some true:=by
 rw[Dc]
 have z:C6 ⟨#[]⟩ ⟨#[]⟩=true:=Ix _
 have nz:UV ⟨#[]⟩ ⟨#[]⟩=false:=by rw[RE,z];rfl
 have e1:EQ ⟨#[]⟩=some true:=by rw[EQ,if_pos z]
 have e2:Dt []=some true:=by rw[Dt,CD];rfl
 have e3:EE nA=some true:=by rw[EE,C1];rfl
 show(EQ ⟨#[]⟩>>=_)=_
 rw[e1]
 show(BQ ⟨#[97]⟩>>=_)=_
 rw[ACJ]
 show(if UV ⟨#[]⟩ ⟨#[]⟩=true then some false else if UV ⟨#[]⟩ ⟨#[]⟩=true then _ else(Bv ⟨#[]⟩>>=_))=_
 rw[nz,if_neg Bool.false_ne_true,if_neg Bool.false_ne_true]
 rw[ACK]
 show(Dt []>>=_)=_
 rw[e2]
 exact e3
theorem ACM : Bi [nA] 0=some true:=by
 rw[Bi,Bd]
 show(Dc nA>>=_)=_
 rw[ACL]
 show DO [nA] 0 0 nA=_
 rw[DO]
 have e:Bi [] 1=some true:=by rw[Bi,Bd];rfl
 show(Bi [] 1>>=_)=_
 rw[e]
 show Bd [nA] 0 1=_
 rw[Bd];rfl
theorem ACN : FU nD=some true:=by
 rw[FU,ACH]
 show BN 0 0 nD=_
 rw[BN]
 show DP 1 0 nD=_
 rw[DP]
 show BN 1 1 nD=_
 rw[BN]
 have z:C6 ⟨#[]⟩ ⟨#[]⟩=true:=Ix _
 show(if C6 ⟨#[]⟩ ⟨#[]⟩=true then if C6 ⟨#[]⟩ ⟨#[]⟩=true then if C6 ⟨#[]⟩ ⟨#[]⟩=true then if C6 ⟨#[]⟩ ⟨#[]⟩=true then(Bi [nA] 0>>=_)else _ else _ else _ else _)=_
 rw[if_pos z,if_pos z,if_pos z,if_pos z]
 rw[ACM];rfl
theorem A5i : Fn [] []=some []:=by
 rw[Fn];rfl
theorem ABE : ∃ u,C9 [] ⟨#[]⟩=some (u,true)∧UV u ⟨#[]⟩=false:=by
 have z:C6 ⟨#[]⟩ ⟨#[]⟩=true:=Ix _
 refine⟨⟨#[]⟩, ?_,by rw[RE,z];rfl⟩
 rw[C9]
 show CB [] ⟨#[]⟩ (-1)=_
 rw[CB,z]
 rfl
theorem ABF : CN nA []=some true:=by
 obtain⟨u,h1,h2⟩:=ABE
 rw[CN]
 show(Fn [] []>>=_)=_
 rw[A5i]
 show(C9 [] ⟨#[]⟩>>=_)=_
 rw[h1]
 show(if UV u ⟨#[]⟩then some false else Ch [] nA)=_
 rw[h2]
 show Ch [] nA=_
 rw[Ch,Bj]
 show Ay [] 0 nA=_
 rw[Ay];rfl
theorem A25 : bK nD=true:=by
 have h:=(zQ nD (by rw[show nD.sz=2 from A02];omega)).1
 have e:FV nD=some true:=by
  rw[FV]
  show(FU nD>>=_)=_
  rw[ACN]
  show(CN nD []>>=_)=_
  rw[CN]
  show((Fn [] []>>=_)>>=_)=_
  rw[A5i]
  show(Ch [] nD>>=_)=_
  rw[Ch,Bj]
  show(Ay [] 0 nD>>=_)=_
  rw[Ay]
  show((CN nA []>>=fun r7=>if r7 then Ay [] 1 nD else some false)>>=_)=_
  rw[ABF]
  show(Ay [] 1 nD>>=_)=_
  rw[Ay];rfl
 rw[e]at h
 exact(Option.some.inj h).symm
end TT
namespace TT
open Go
inductive KdT : A0→Prop
 |mk (n:A0) (h1:∀k∈n.Kids,(1≤k.Kind∧k.Kind≤4)∧(k.Kind≠1→k.Kids=[])) (h2:∀k∈n.Kids,KdT k):KdT n
theorem KdT.kid {n k:A0} (h:KdT n) (hk:k∈n.Kids):((1≤k.Kind∧k.Kind≤4)∧(k.Kind≠1→k.Kids=[]))∧KdT k:=by cases h with|mk _ h1 h2=>exact⟨h1 k hk,h2 k hk⟩
theorem fm {a b:Int} (h:Ag a b=true):a=b:=by simpa [Ag] using h
theorem zS {a b:Int} (h:Ag a b=false):a≠b:=by simpa [Ag] using h
theorem ZD {x y:Option Bool} (h:(x>>=fun r=>if r then y else some false)=some true):x=some true∧y=some true:=by
 cases x with
 |none=>cases h
 |some b=>cases b with
  |true=>exact⟨rfl,h⟩
  |false=>cases h
theorem ma {x:Option Bool} (h:(x>>=fun r=>some r)=some true):x=some true:=by
 cases x with
 |none=>cases h
 |some b=>exact h
theorem FL {b:Bool} {x:Option Bool} (h:(if b then some false else x)=some true):b=false∧x=some true:=by
 cases b with
 |true=>cases h
 |false=>exact⟨rfl,h⟩
theorem A9B (n:A0) (h:Gl n=some true):2≤n.Kind∧n.Kind≤4:=by
 rw[Gl]at h
 cases h2:Ag n.Kind 2 with
 |true=>have:=fm h2;omega
 |false=>
  rw[h2]at h
  simp only[bf,if_false]at h
  cases h3:Ag n.Kind 3 with
  |true=>have:=fm h3;omega
  |false=>
   rw[h3]at h
   simp only[bf,if_false]at h
   cases h4:Ag n.Kind 4 with
   |true=>have:=fm h4;omega
   |false=>
    rw[h4]at h
    cases h
theorem A26 (n:A0) (h:He n=some true):(2≤n.Kind∧n.Kind≤4)∧n.Kids=[]:=by
 rw[He]at h
 obtain⟨_,h⟩:=FL h
 obtain⟨_,h⟩:=FL h
 obtain⟨_,h⟩:=FL h
 obtain⟨_,h⟩:=FL h
 obtain⟨hk,h⟩:=FL h
 have hn:n.Kids=[]:=by
  cases e:n.Kids with
  |nil=>rfl
  |cons x l=>
   rw[e,Rf (by simp only[AD,List.length_cons];omega)]at hk
   cases hk
 refine⟨?_,hn⟩
 split at h
 ·obtain⟨_,h⟩:=FL h
  exact A9B n h
 ·exact A9B n h
theorem A8g : ∀ n:A0,n.sz≤1048576→∀d:Nat,d≤7→pB d n=true→((1≤n.Kind∧n.Kind≤4)∧(n.Kind≠1→n.Kids=[]))∧KdT n:=by
 refine A0.ind' fun n ih hs d hd hp=> ?_
 have h:CO n d=some true:=by rw[(eQ n hs d hd).1,hp]
 have hz:=A0.sz_eq n
 rw[CO]at h
 cases hk:Ag n.Kind 1 with
 |false=>
  rw[Z7,hk]at h
  obtain⟨h1,h2⟩:=A26 n (ma h)
  exact⟨⟨⟨by omega,by omega⟩,fun _=>h2⟩, .mk n (by rw[h2];simp) (by rw[h2];simp)⟩
 |true=>
  have h1:=fm hk
  rw[Z7,hk]at h
  simp only[Bool.not_true,bf,if_false]at h
  obtain⟨h7,h⟩:=FL h
  obtain⟨_,h⟩:=FL h
  obtain⟨_,h⟩:=ZD h
  obtain⟨_,h⟩:=ZD h
  obtain⟨_,h⟩:=ZD h
  obtain⟨_,h⟩:=ZD h
  obtain⟨_,h⟩:=ZD h
  replace h:=ma h
  have hd7:d<7:=by
   by_cases e:d<7
   ·exact e
   ·rw[PV (by omega)]at h7;cases h7
  rw[show Af (d:Int) 1=((d+1:Nat):Int) by rw[Bk (by omega) (by omega)];omega,fk n hs (d+1) (by omega)]at h
  have hb:Rg ((d+1:Nat):Int) n.Kids=true:=Option.some.inj h
  rw[Rg,bz,List.all_eq_true]at hb
  have hall:∀k∈n.Kids,((1≤k.Kind∧k.Kind≤4)∧(k.Kind≠1→k.Kids=[]))∧KdT k:=fun k hm=>ih k hm (by have:=Dh A0.sz hm;omega) (d+1) (by omega) (hb.2 k hm)
  exact⟨⟨⟨by omega,by omega⟩,fun e=>absurd h1 e⟩, .mk n (fun k hm=>(hall k hm).1) (fun k hm=>(hall k hm).2)⟩
theorem A8h (n:A0) (hs:n.sz≤1048576) (h:bK n=true):KdT n∧n.Kids.countP (fun k=>Ag k.Kind 1)=1:=by
 have hz:=A0.sz_eq n
 rw[bK,bz,bz]at h
 obtain⟨h0,hn,_⟩:=h
 have hk0:=fm h0
 have hN:Hh n=some true:=by rw[(A5Y n hs).2,hn]
 rw[Hh]at hN
 obtain⟨c,hc⟩:∃c,FJ n=some c:=by
  cases e:FJ n with
  |none=>rw[e]at hN;cases hN
  |some c=>exact⟨c,rfl⟩
 rw[hc,A3]at hN
 obtain⟨_,hN⟩:=FL hN
 rw[Z7,h0]at hN
 simp only[Bool.not_true,bf,if_false]at hN
 have key:∀b,CF b n=some true→KdT n∧n.Kids.countP (fun k=>Ag k.Kind 1)=1:=by
  intro b hb
  rw[CF]at hb
  cases b with
  |false=>cases hb
  |true=>
   simp only[if_true]at hb
   rw[X3 _ _ (by omega),A3]at hb
   cases h1:Ag (ofK 1 n.Kids:Int) 1 with
   |false=>rw[h1]at hb;cases hb
   |true=>
    rw[h1]at hb
    simp only[if_true]at hb
    rw[X3 _ _ (by omega),A3]at hb
    cases h2:Ag (ofK 2 n.Kids:Int) 0 with
    |false=>rw[h2]at hb;cases hb
    |true=>
     rw[h2]at hb
     simp only[if_true]at hb
     replace hb:=ma hb
     have hk:FY n 0=some (Rg ((0:Nat):Int) n.Kids):=fk n hs 0 (by omega)
     rw[hk]at hb
     have hb':=Option.some.inj hb
     rw[Rg,bz,List.all_eq_true]at hb'
     have hall:∀k∈n.Kids,((1≤k.Kind∧k.Kind≤4)∧(k.Kind≠1→k.Kids=[]))∧KdT k:=fun k hm=>A8g k (by have:=Dh A0.sz hm;omega) 0 (by omega) (hb'.2 k hm)
     refine⟨.mk n (fun k hm=>(hall k hm).1) (fun k hm=>(hall k hm).2), ?_⟩
     have:=fm h1
     have e:ofK 1 n.Kids=n.Kids.countP (fun k=>Ag k.Kind 1):=rfl
     omega
 split at hN
 ·split at hN
  ·split at hN
   ·split at hN
    ·split at hN
     ·exact key _ hN
     ·exact key _ hN
    ·exact key _ hN
   ·exact key _ hN
  ·exact key _ hN
 ·exact key _ hN
end TT
namespace TT
open Go
abbrev JZ : ByteArray:=⟨#[]⟩
theorem A5j : JS JZ=some true:=by
 have h1:E3 JZ=some true:=by
  rw[E3,LN,Dv];rfl
 have h2:strings_Contains JZ (⟨#[39]⟩)=some false:=by rfl
 rw[JS,h1]
 simp only[A3,if_true,h2,bf,if_false]
theorem wj : LP [] JZ=some (JZ,true):=by rfl
theorem fo : C6 JZ JZ=true:=RC.2 rfl
theorem zT : UV JZ JZ=false:=by rw[show UV JZ JZ= !C6 JZ JZ from rfl,fo];rfl
theorem iC (s:List AH) (hs:s.length≤1000000) (hp:∀p∈s,p.Pre=JZ):∀(rest pre:List AH),pre++rest=s→Ap s [] pre.length=some (-1)
 | [],pre,hq=>by rw[Ap,Cj hq];rfl
 |x::rest,pre,hq=>by
  have ih:=iC s hs hp rest (pre++[x]) (Bh hq)
  have hx:x.Pre=JZ:=hp x (by rw[←hq];simp)
  rw[Ap,Bx hq,BS hq,Bm hq (by rw[Aq];omega)]
  simp only[if_true,A3,LQ,In,hx,wj,Bool.not_true,bf,if_false,ih]
theorem iD (s:List AE) (hs:s.length≤1000000) (hp:∀x∈s,x.Pre=JZ∧x.Preds.length≤1000000∧∀p∈x.Preds,p.Pre=JZ):∀(rest pre:List AE),pre++rest=s→B4 s [] pre.length=some (-1)
 | [],pre,hq=>by rw[B4,Cj hq];rfl
 |x::rest,pre,hq=>by
  have ih:=iD s hs hp rest (pre++[x]) (Bh hq)
  obtain⟨hx,hl,hx2⟩:=hp x (by rw[←hq];simp)
  have h2:Ap x.Preds [] 0=some (-1):=iC x.Preds hl hx2 x.Preds [] rfl
  rw[B4,Bx hq,BS hq,Bm hq (by rw[Aq];omega)]
  simp only[if_true,A3,PJ,In,hx,wj,Ca,D8,h2,show geI (-1) 0=false from rfl,bf,if_false,ih]
theorem A27 (s:B8) (hs:s.Steps.length≤1000000) (hp:∀x∈s.Steps,x.Pre=JZ∧x.Preds.length≤1000000∧∀p∈x.Preds,p.Pre=JZ):QB s []=some true:=by
 have h:B4 s.Steps [] 0=some (-1):=iD s.Steps hs hp s.Steps [] rfl
 rw[QB,D0,Dg,h];rfl
theorem wk (r:List (List Int)) (hr:r.length≤1000000):∀(rest pre:List (List Int)) (out:List Am),pre++rest=r→out.length≤pre.length→IA out r pre.length=some (out++rest.map fun p=>Am.mk p 0 0,true)
 | [],pre,out,hq,ho=>by rw[IA,Cj hq,List.map_nil,List.append_nil];rfl
 |p::rest,pre,out,hq,ho=>by
  have hlen:pre.length+1≤r.length:=by rw[←hq];simp
  have ih:=wk r hr rest (pre++[p]) (out++[Am.mk p 0 0]) (Bh hq) (by simp;omega)
  rw[IA,Bx hq,BS hq,Bm hq (by rw[Aq];omega),Hs (by omega) (by omega) (by omega)]
  simp only[if_true,A3]
  rw[ih,List.map_cons,List.append_assoc,List.singleton_append]
theorem ACO (K:Int) (h:2≤K∧K≤5):Ag K 1=false∧Ag K 6=false∧Ag K 7=false:=
 ⟨H0 (by omega),H0 (by omega),H0 (by omega)⟩
theorem A28 (t:A0) (h:Dm) (l:List A2) (s:B8) (paths:List (List Int)) (k:Nat) {x:AE} (hx:s.Steps[k]? =some x) (hK:2≤x.Kind∧x.Kind≤5) (hl:s.Steps.length≤1000000):
  EH t h l paths s k=E0 (Ah.mk t h l) paths x>>=fun r9=>EH t h l r9 s ((k+1:Nat):Int):=by
 obtain⟨_,e6,e7⟩:=ACO x.Kind hK
 have hlt:=(List.getElem?_eq_some_iff.1 hx).1
 rw[EH,wG hx,Wx hx]
 simp only[if_true,A3,e6,e7,bf,if_false]
 rw[Jn,Uv (by omega)]
 simp only[bf,if_false]
theorem A29 (t:A0) (h:Dm) (l:List A2) (s:B8) (paths:List (List Int)) (hp:paths.length≤1000000):EH t h l paths s (s.Steps.length:Nat)=some (paths.map fun p=>Am.mk p 0 0,true):=by
 rw[EH,gz]
 simp only[bf,if_false]
 have:=wk paths hp paths [] [] rfl (Nat.le_refl _)
 rw[List.nil_append]at this
 exact this
theorem A5k (t:A0) (h:Dm) (s:B8) (ht:Kq t=some true) (hs:I7 s=some true) (hm:QB s []=some true) (hi:s.Id=JZ):Te t h s []=EH t h [] [[]] s 0:=by
 rw[Te,ht]
 simp only[A3,if_true,hs,hm]
 rw[IQ,hi,fo]
 simp only[if_true,A3]
end TT
