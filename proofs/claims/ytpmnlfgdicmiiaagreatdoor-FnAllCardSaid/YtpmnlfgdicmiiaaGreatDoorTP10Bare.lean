import Derived.Test.YtpmnlfgdicmiiaaGreatDoorTP2Fits
import Derived.Test.YtpmnlfgdicmiiaaGreatDoorTP3Merge
import Derived.Test.YtpmnlfgdicmiiaaGreatDoorTP3Same
import Derived.Test.YtpmnlfgdicmiiaaGreatDoorTP10Path
set_option linter.unusedVariables false
set_option linter.unusedSimpArgs false
namespace TT
open Go
abbrev nA : A0:=A0.mk 1 (⟨#[]⟩) (⟨#[97]⟩) (⟨#[]⟩) [] [] [] (⟨#[]⟩)
abbrev nD : A0:=A0.mk 0 (⟨#[]⟩) (⟨#[]⟩) (⟨#[]⟩) [] [] [nA] (⟨#[]⟩)
theorem A6c : Bj nA=some 1:=by rw[Bj,Ak];rfl
theorem A6d : Bj nD=some 2:=by
 rw[Bj,Ak]
 show(Bj nA>>=fun r1=>Ak (AV 1 r1) 1 nD)=_
 rw[A6c]
 show Ak 2 1 nD=_
 rw[Ak];rfl
theorem A3S : DV 97=some true:=by
 rw[DV,E8]
 have e:∀l:List Int,l=[65,90,95,95,97,122,192,214,216,246,248,767,880,893,895,8191,8204,8205,8304,8591,11264,12271,12289,55295,63744,64975,65008,65533,65536,983039]→Ae 97 l 0=some true:=by
  intro l hl
  rw[Ae,hl]
  show Ae 97 _ 2=_
  rw[Ae]
  show Ae 97 _ 4=_
  rw[Ae]
  rfl
 rw[e _ rfl];rfl
theorem A6e : EH 97=some true:=by
 rw[EH,A3S];rfl
theorem A6f : BQ ⟨#[97]⟩=some true:=by
 rw[BQ]
 show Ab ⟨#[97]⟩ 0=_
 rw[Ab]
 have e:Et ⟨#[97]⟩ 0=some (97,1,true):=by rw[Et];rfl
 rw[e]
 show(DV 97>>=fun r6=>if r6 then EH 97>>=fun r7=>if r7 then Ab ⟨#[97]⟩ 1 else some false else some false)=_
 rw[A3S,A6e]
 show Ab ⟨#[97]⟩ 1=_
 rw[Ab];rfl
theorem A6g : BG ⟨#[]⟩=some true:=by
 rw[BG]
 have e:Fy ⟨#[]⟩=some true:=by rw[Fy,BT];rfl
 rw[e];rfl
theorem A6h : Ce nA=some true:=by
 rw[Ce]
 have z:D5 ⟨#[]⟩ ⟨#[]⟩=true:=Sq _
 have nz:neS ⟨#[]⟩ ⟨#[]⟩=false:=by rw[OG,z];rfl
 have e1:DW ⟨#[]⟩=some true:=by rw[DW,if_pos z]
 have e2:Cz []=some true:=by rw[Cz,BU];rfl
 have e3:DJ nA=some true:=by rw[DJ,BH];rfl
 show(DW ⟨#[]⟩>>=_)=_
 rw[e1]
 show(BQ ⟨#[97]⟩>>=_)=_
 rw[A6f]
 show(if neS ⟨#[]⟩ ⟨#[]⟩=true then some false else if neS ⟨#[]⟩ ⟨#[]⟩=true then _ else(BG ⟨#[]⟩>>=_))=_
 rw[nz,if_neg Bool.false_ne_true,if_neg Bool.false_ne_true]
 rw[A6g]
 show(Cz []>>=_)=_
 rw[e2]
 exact e3
theorem A6i : Az [nA] 0=some true:=by
 rw[Az,Ax]
 show(Ce nA>>=_)=_
 rw[A6h]
 show CS [nA] 0 0 nA=_
 rw[CS]
 have e:Az [] 1=some true:=by rw[Az,Ax];rfl
 show(Az [] 1>>=_)=_
 rw[e]
 show Ax [nA] 0 1=_
 rw[Ax];rfl
theorem A6j : EI nD=some true:=by
 rw[EI,A6d]
 show Al 0 0 nD=_
 rw[Al]
 show CT 1 0 nD=_
 rw[CT]
 show Al 1 1 nD=_
 rw[Al]
 have z:D5 ⟨#[]⟩ ⟨#[]⟩=true:=Sq _
 show(if D5 ⟨#[]⟩ ⟨#[]⟩=true then if D5 ⟨#[]⟩ ⟨#[]⟩=true then if D5 ⟨#[]⟩ ⟨#[]⟩=true then if D5 ⟨#[]⟩ ⟨#[]⟩=true then(Az [nA] 0>>=_)else _ else _ else _ else _)=_
 rw[if_pos z,if_pos z,if_pos z,if_pos z]
 rw[A6i];rfl
theorem A0D : EY [] []=some []:=by
 rw[EY];rfl
theorem A5Y : ∃ u,BP [] ⟨#[]⟩=some (u,true)∧neS u ⟨#[]⟩=false:=by
 have z:D5 ⟨#[]⟩ ⟨#[]⟩=true:=Sq _
 refine⟨⟨#[]⟩, ?_,by rw[OG,z];rfl⟩
 rw[BP]
 show BS [] ⟨#[]⟩ (-1)=_
 rw[BS,z]
 rfl
theorem A5Z : Bb nA []=some true:=by
 obtain⟨u,h1,h2⟩:=A5Y
 rw[Bb]
 show(EY [] []>>=_)=_
 rw[A0D]
 show(BP [] ⟨#[]⟩>>=_)=_
 rw[h1]
 show(if neS u ⟨#[]⟩then some false else Bx [] nA)=_
 rw[h2]
 show Bx [] nA=_
 rw[Bx,B5]
 show AY [] 0 nA=_
 rw[AY];rfl
theorem vX : VP nD=true:=by
 have h:=(ru nD (by rw[show nD.sz=2 from sd];omega)).1
 have e:Ev nD=some true:=by
  rw[Ev]
  show(EI nD>>=_)=_
  rw[A6j]
  show(Bb nD []>>=_)=_
  rw[Bb]
  show((EY [] []>>=_)>>=_)=_
  rw[A0D]
  show(Bx [] nD>>=_)=_
  rw[Bx,B5]
  show(AY [] 0 nD>>=_)=_
  rw[AY]
  show((Bb nA []>>=fun r7=>if r7 then AY [] 1 nD else some false)>>=_)=_
  rw[A5Z]
  show(AY [] 1 nD>>=_)=_
  rw[AY];rfl
 rw[e]at h
 exact(Option.some.inj h).symm
end TT
namespace TT
open Go
inductive KdT : A0→Prop
 |mk (n:A0) (h1:∀k∈n.Kids,(1≤k.Kind∧k.Kind≤4)∧(k.Kind≠1→k.Kids=[])) (h2:∀k∈n.Kids,KdT k):KdT n
theorem KdT.kid {n k:A0} (h:KdT n) (hk:k∈n.Kids):((1≤k.Kind∧k.Kind≤4)∧(k.Kind≠1→k.Kids=[]))∧KdT k:=by cases h with|mk _ h1 h2=>exact⟨h1 k hk,h2 k hk⟩
theorem Xd {a b:Int} (h:Af a b=true):a=b:=by simpa [Af] using h
theorem A5a {a b:Int} (h:Af a b=false):a≠b:=by simpa [Af] using h
theorem VQ {x y:Option Bool} (h:(x>>=fun r=>if r then y else some false)=some true):x=some true∧y=some true:=by
 cases x with
 |none=>cases h
 |some b=>cases b with
  |true=>exact⟨rfl,h⟩
  |false=>cases h
theorem er {x:Option Bool} (h:(x>>=fun r=>some r)=some true):x=some true:=by
 cases x with
 |none=>cases h
 |some b=>exact h
theorem EA {b:Bool} {x:Option Bool} (h:(if b then some false else x)=some true):b=false∧x=some true:=by
 cases b with
 |true=>cases h
 |false=>exact⟨rfl,h⟩
theorem A3T (n:A0) (h:FO n=some true):2≤n.Kind∧n.Kind≤4:=by
 rw[FO]at h
 cases h2:Af n.Kind 2 with
 |true=>have:=Xd h2;omega
 |false=>
  rw[h2]at h
  simp only[Bool.false_eq_true,if_false]at h
  cases h3:Af n.Kind 3 with
  |true=>have:=Xd h3;omega
  |false=>
   rw[h3]at h
   simp only[Bool.false_eq_true,if_false]at h
   cases h4:Af n.Kind 4 with
   |true=>have:=Xd h4;omega
   |false=>
    rw[h4]at h
    cases h
theorem vY (n:A0) (h:G1 n=some true):(2≤n.Kind∧n.Kind≤4)∧n.Kids=[]:=by
 rw[G1]at h
 obtain⟨_,h⟩:=EA h
 obtain⟨_,h⟩:=EA h
 obtain⟨_,h⟩:=EA h
 obtain⟨_,h⟩:=EA h
 obtain⟨hk,h⟩:=EA h
 have hn:n.Kids=[]:=by
  cases e:n.Kids with
  |nil=>rfl
  |cons x l=>
   rw[e,RX (by simp only[AD,List.length_cons];omega)]at hk
   cases hk
 refine⟨?_,hn⟩
 split at h
 ·obtain⟨_,h⟩:=EA h
  exact A3T n h
 ·exact A3T n h
theorem A33 : ∀ n:A0,n.sz≤1048576→∀d:Nat,d≤7→pB d n=true→((1≤n.Kind∧n.Kind≤4)∧(n.Kind≠1→n.Kids=[]))∧KdT n:=by
 refine A0.ind' fun n ih hs d hd hp=> ?_
 have h:Bc n d=some true:=by rw[(Yw n hs d hd).1,hp]
 have hz:=A0.sz_eq n
 rw[Bc]at h
 cases hk:Af n.Kind 1 with
 |false=>
  rw[VJ,hk]at h
  obtain⟨h1,h2⟩:=vY n (er h)
  exact⟨⟨⟨by omega,by omega⟩,fun _=>h2⟩, .mk n (by rw[h2];simp) (by rw[h2];simp)⟩
 |true=>
  have h1:=Xd hk
  rw[VJ,hk]at h
  simp only[Bool.not_true,Bool.false_eq_true,if_false]at h
  obtain⟨h7,h⟩:=EA h
  obtain⟨_,h⟩:=EA h
  obtain⟨_,h⟩:=VQ h
  obtain⟨_,h⟩:=VQ h
  obtain⟨_,h⟩:=VQ h
  obtain⟨_,h⟩:=VQ h
  obtain⟨_,h⟩:=VQ h
  replace h:=er h
  have hd7:d<7:=by
   by_cases e:d<7
   ·exact e
   ·rw[RW (by omega)]at h7;cases h7
  rw[show AV (d:Int) 1=((d+1:Nat):Int) by rw[BK (by omega) (by omega)];omega,Zg n hs (d+1) (by omega)]at h
  have hb:Oh ((d+1:Nat):Int) n.Kids=true:=Option.some.inj h
  rw[Oh,Bool.and_eq_true,List.all_eq_true]at hb
  have hall:∀k∈n.Kids,((1≤k.Kind∧k.Kind≤4)∧(k.Kind≠1→k.Kids=[]))∧KdT k:=fun k hm=>ih k hm (by have:=Dq A0.sz hm;omega) (d+1) (by omega) (hb.2 k hm)
  exact⟨⟨⟨by omega,by omega⟩,fun e=>absurd h1 e⟩, .mk n (fun k hm=>(hall k hm).1) (fun k hm=>(hall k hm).2)⟩
theorem su (n:A0) (hs:n.sz≤1048576) (h:VP n=true):KdT n∧n.Kids.countP (fun k=>Af k.Kind 1)=1:=by
 have hz:=A0.sz_eq n
 rw[VP,Bool.and_eq_true,Bool.and_eq_true]at h
 obtain⟨h0,hn,_⟩:=h
 have hk0:=Xd h0
 have hN:G4 n=some true:=by rw[(A03 n hs).2,hn]
 rw[G4]at hN
 obtain⟨c,hc⟩:∃c,E9 n=some c:=by
  cases e:E9 n with
  |none=>rw[e]at hN;cases hN
  |some c=>exact⟨c,rfl⟩
 rw[hc,A6]at hN
 obtain⟨_,hN⟩:=EA hN
 rw[VJ,h0]at hN
 simp only[Bool.not_true,Bool.false_eq_true,if_false]at hN
 have key:∀b,BV b n=some true→KdT n∧n.Kids.countP (fun k=>Af k.Kind 1)=1:=by
  intro b hb
  rw[BV]at hb
  cases b with
  |false=>cases hb
  |true=>
   simp only[if_true]at hb
   rw[Te _ _ (by omega),A6]at hb
   cases h1:Af (ofK 1 n.Kids:Int) 1 with
   |false=>rw[h1]at hb;cases hb
   |true=>
    rw[h1]at hb
    simp only[if_true]at hb
    rw[Te _ _ (by omega),A6]at hb
    cases h2:Af (ofK 2 n.Kids:Int) 0 with
    |false=>rw[h2]at hb;cases hb
    |true=>
     rw[h2]at hb
     simp only[if_true]at hb
     replace hb:=er hb
     have hk:EJ n 0=some (Oh ((0:Nat):Int) n.Kids):=Zg n hs 0 (by omega)
     rw[hk]at hb
     have hb':=Option.some.inj hb
     rw[Oh,Bool.and_eq_true,List.all_eq_true]at hb'
     have hall:∀k∈n.Kids,((1≤k.Kind∧k.Kind≤4)∧(k.Kind≠1→k.Kids=[]))∧KdT k:=fun k hm=>A33 k (by have:=Dq A0.sz hm;omega) 0 (by omega) (hb'.2 k hm)
     refine⟨.mk n (fun k hm=>(hall k hm).1) (fun k hm=>(hall k hm).2), ?_⟩
     have:=Xd h1
     have e:ofK 1 n.Kids=n.Kids.countP (fun k=>Af k.Kind 1):=rfl
     omega
 split at hN
 ·split at hN
  ·split at hN
   ·split at hN
    ·split at hN
     ·exact key _ hN
     ·exact key _ hN
    ·exact key _ hN
   ·exact key _ hN
  ·exact key _ hN
 ·exact key _ hN
theorem A34 : ∀ n:A0,nds n=(Zh n).length:=by
 refine A0.ind' fun n ih=> ?_
 have key:∀l:List A0,(∀k∈l,k∈n.Kids)→IA l=(H8 l).length:=by
  intro l
  induction l with
  |nil=>intro _;rfl
  |cons x l ihl=>
   intro h
   rw[IA,H8,List.length_append,ih x (h x (List.mem_cons_self ..)),ihl fun k hk=>h k (List.mem_cons_of_mem _ hk)]
 rw[Xa,OH,List.length_cons,key n.Kids fun _ h=>h];omega
theorem vZ (q:A0→Bool) (f:A0→Nat) (hf:∀x,f x=x.Kids.countP q):∀n:A0,((Zh n).map f).sum=(H8 n.Kids).countP q:=by
 refine A0.ind' fun n ih=> ?_
 have key:∀l:List A0,(∀k∈l,k∈n.Kids)→((H8 l).map f).sum+l.countP q=(H8 l).countP q:=by
  intro l
  induction l with
  |nil=>intro _;rfl
  |cons x l ihl=>
   intro h
   have h1:=ih x (h x (List.mem_cons_self ..))
   have h2:=ihl fun k hk=>h k (List.mem_cons_of_mem _ hk)
   rw[H8,List.map_append,List.sum_append,List.countP_append,h1,List.countP_cons,OH x,List.countP_cons]
   omega
 have:=key n.Kids fun _ h=>h
 rw[OH,List.map_cons,List.sum_cons,hf n]
 omega
theorem A35 (n:A0) (h:KdT n):∀x∈H8 n.Kids,1≤x.Kind∧x.Kind≤4:=by
 revert h
 refine A0.ind' (p:=fun n=>KdT n→∀x∈H8 n.Kids,1≤x.Kind∧x.Kind≤4) (fun n ih h=> ?_) n
 have key:∀l:List A0,(∀k∈l,k∈n.Kids)→∀x∈H8 l,1≤x.Kind∧x.Kind≤4:=by
  intro l
  induction l with
  |nil=>intro _ x hx;cases hx
  |cons y l ihl=>
   intro hm x hx
   rw[H8]at hx
   rcases List.mem_append.1 hx with hx|hx
   ·obtain⟨h1,h2⟩:=h.kid (hm y (List.mem_cons_self ..))
    rw[OH]at hx
    rcases List.mem_cons.1 hx with rfl|hx
    ·exact h1.1
    ·exact ih y (hm y (List.mem_cons_self ..)) h2 x hx
   ·exact ihl (fun k hk=>hm k (List.mem_cons_of_mem _ hk)) x hx
 exact key n.Kids fun _ hk=>hk
end TT
namespace TT
open Go
abbrev noS : ByteArray:=⟨#[]⟩
theorem A0E : Ip noS=some true:=by
 have h1:D8 noS=some true:=by
  rw[D8,JA,D0];rfl
 have h2:strings_Contains noS (⟨#[39]⟩)=some false:=by rfl
 rw[Ip,h1]
 simp only[A6,if_true,h2,Bool.false_eq_true,if_false]
theorem pW : JD [] noS=some (noS,true):=by rfl
def kst (dp:Bool) (K:Int) (ps:List AH):AJ:=AJ.mk dp K noS noS ps
theorem s9 : D5 noS noS=true:=TX.2 rfl
theorem af (s:List AH) (hs:s.length≤1000000) (hp:∀p∈s,p.Pre=noS):∀(rest pre:List AH),pre++rest=s→AT s [] pre.length=some (-1)
 | [],pre,hq=>by rw[AT,EO hq];rfl
 |x::rest,pre,hq=>by
  have ih:=af s hs hp rest (pre++[x]) (Cl hq)
  have hx:x.Pre=noS:=hp x (by rw[←hq];simp)
  rw[AT,DD hq,BY hq,Ck hq (by rw[B4];omega)]
  simp only[if_true,A6,JE,H3,hx,pW,Bool.not_true,Bool.false_eq_true,if_false,ih]
theorem ah (s:List AJ) (hs:s.length≤1000000) (hp:∀x∈s,x.Pre=noS∧x.Preds.length≤1000000∧∀p∈x.Preds,p.Pre=noS):∀(rest pre:List AJ),pre++rest=s→Aa s [] pre.length=some (-1)
 | [],pre,hq=>by rw[Aa,EO hq];rfl
 |x::rest,pre,hq=>by
  have ih:=ah s hs hp rest (pre++[x]) (Cl hq)
  obtain⟨hx,hl,hx2⟩:=hp x (by rw[←hq];simp)
  have h2:AT x.Preds [] 0=some (-1):=af x.Preds hl hx2 x.Preds [] rfl
  rw[Aa,DD hq,BY hq,Ck hq (by rw[B4];omega)]
  simp only[if_true,A6,MZ,H3,hx,pW,Bm,CD,h2,show UV (-1) 0=false from rfl,Bool.false_eq_true,if_false,ih]
theorem vc (s:Eh) (hs:s.Steps.length≤1000000) (hp:∀x∈s.Steps,x.Pre=noS∧x.Preds.length≤1000000∧∀p∈x.Preds,p.Pre=noS):NI s []=some true:=by
 have h:Aa s.Steps [] 0=some (-1):=ah s.Steps hs hp s.Steps [] rfl
 rw[NI,C7,Ci,h];rfl
theorem pX (r:List (List Int)) (hr:r.length≤1000000):∀(rest pre:List (List Int)) (out:List AS),pre++rest=r→out.length≤pre.length→GS out r pre.length=some (out++rest.map fun p=>AS.mk p 0 0,true)
 | [],pre,out,hq,ho=>by rw[GS,EO hq,List.map_nil,List.append_nil];rfl
 |p::rest,pre,out,hq,ho=>by
  have hlen:pre.length+1≤r.length:=by rw[←hq];simp
  have ih:=pX r hr rest (pre++[p]) (out++[AS.mk p 0 0]) (Cl hq) (by simp;omega)
  rw[GS,DD hq,BY hq,Ck hq (by rw[B4];omega),Gj (by omega) (by omega) (by omega)]
  simp only[if_true,A6]
  rw[ih,List.map_cons,List.append_assoc,List.singleton_append]
theorem A0F (K:Int) (h:2≤K∧K≤5):Af K 1=false∧Af K 6=false∧Af K 7=false:=
 ⟨Og (by omega),Og (by omega),Og (by omega)⟩
theorem ve (t:A0) (h:D2) (l:List A1) (s:Eh) (paths:List (List Int)) (k:Nat) {x:AJ} (hx:s.Steps[k]? =some x) (hK:2≤x.Kind∧x.Kind≤5) (hl:s.Steps.length≤1000000):
  DK t h l paths s k=E0 (AP.mk t h l) paths x>>=fun r9=>DK t h l r9 s ((k+1:Nat):Int):=by
 obtain⟨_,e6,e7⟩:=A0F x.Kind hK
 have hlt:=(List.getElem?_eq_some_iff.1 hx).1
 rw[DK,ot hx,TZ hx]
 simp only[if_true,A6,e6,e7,Bool.false_eq_true,if_false]
 rw[Hz,RY (by omega)]
 simp only[Bool.false_eq_true,if_false]
theorem vf (t:A0) (h:D2) (l:List A1) (s:Eh) (paths:List (List Int)) (hp:paths.length≤1000000):DK t h l paths s (s.Steps.length:Nat)=some (paths.map fun p=>AS.mk p 0 0,true):=by
 rw[DK,aW]
 simp only[Bool.false_eq_true,if_false]
 have:=pX paths hp paths [] [] rfl (Nat.le_refl _)
 rw[List.nil_append]at this
 exact this
theorem A0G (t:A0) (h:D2) (s:Eh) (ht:Io t=some true) (hs:NH s=some true) (hm:NI s []=some true) (hi:s.Id=noS):NJ t h s []=DK t h [] [[]] s 0:=by
 rw[NJ,ht]
 simp only[A6,if_true,hs,hm]
 rw[Gh,hi,s9]
 simp only[if_true,A6]
end TT
