import Derived.Test.YtpmnlfgdicmiiaaGreatDoorTHX
import Derived.Test.YtpmnlfgdicmiiaaGreatDoorTEqF
import Derived.Test.YtpmnlfgdicmiiaaGreatDoorTD13
import Derived.Below
import Derived.Test.YtpmnlfgdicmiiaaGreatDoorTE
set_option linter.unusedVariables false
set_option linter.unusedSimpArgs false
set_option maxRecDepth 100000
namespace TT
open Go Go.RowKit
def RN (s t:ByteArray):Int:=Lib.compareBytes s.data.toList t.data.toList
def ZU : Y3
 | [.t (.v (.string s)), .t (.v (.string t))]=>some ⟨[.t (.v (.int .i64 (RN s t)))],[]⟩
 |_=>none
theorem s9 (s t:ByteArray) {r:Int} {e:Int→BD} (he:∀r,e r=⟨[.t (.v (.int .i64 r))],[]⟩) (hr:some (RN s t)=some r):ZU [.t (.v (.string s)), .t (.v (.string t))]=some (e r):=by
 cases hr
 rw[he];rfl
theorem iL {G:Gt} {P:Program} {f:FuncId} (hc:NN P f=true) (h:∀(s t:ByteArray) (w:World),Calls P f #[.string s, .string t] w fun e w'=>e= .returned (.int .i64 (Lib.compareBytes s.data.toList t.data.toList))∧w'=w):Mm G P f ZU:=L6 hc fun args res hr=>by
 unfold ZU at hr
 split at hr
 ·rename_i s t
  cases hr
  refine⟨[.string s, .string t],[.int .i64 (RN s t)],rfl,rfl,fun v hv=> ?_,fun w B hG=>Calls.mono (h s t w) ?_⟩
  ·simp only[List.mem_cons,List.not_mem_nil,or_false]at hv
   subst hv;rfl
  ·rintro e w' ⟨rfl,rfl⟩
   exact⟨rfl,⟨rfl,rfl,rfl,Nat.le_refl _,fun _ _=>rfl⟩⟩
 ·cases hr
def foldL : List Int:=[0,1,2,3,4,5,6,7,8,9,10,11,12,13,14,15,16,17,18,19,20,21,22,23,24,25,26,27,28,29,30,31,32,33,34,35,36,37,38,39,40,41,42,43,44,45,46,47,48,49,50,51,52,53,54,55,56,57,58,59,60,61,62,63,64,97,98,99,100,101,102,103,104,105,106,107,108,109,110,111,112,113,114,115,116,117,118,119,120,121,122,91,92,93,94,95,96,65,66,67,68,69,70,71,72,73,74,8490,76,77,78,79,80,81,82,383,84,85,86,87,88,89,90,123,124,125,126,127]
def AB5 (t:ByteArray):Bool:=t.data.toList.all fun b=>b==120||b==109||b==108
def aA (s t:ByteArray):Bool:=Lib.equalFold s.data.toList t.data.toList
def kc : Y3
 | [.t (.v (.string s)), .t (.v (.string t))]=>if s.size<4294967281∧AB5 t=true then some ⟨[.t (.v (.bool (aA s t)))],[]⟩else none
 |_=>none
theorem A1G (s t:ByteArray) {r:Bool} {e:Bool→BD} (he:∀r,e r=⟨[.t (.v (.bool r))],[]⟩) (hr:(if s.size<4294967281∧AB5 t=true then some (aA s t)else none)=some r):kc [.t (.v (.string s)), .t (.v (.string t))]=some (e r):=by
 split at hr
 ·rename_i h
  cases hr
  rw[he]
  simp only[kc,h,and_self,if_true]
 ·cases hr
theorem sA {G:Gt} {P:Program} {ρ:Go.Shelf.Ren} (L:Go.Proofs.Lays.n164 P ρ) (hG:∀B w,G.ok B w→Lib.TabIs P w "unicode.asciiFold" .u16 foldL) (hg:P.globalNamed "unicode.asciiFold" =some (ρ.g 11)) (hc:NN P (ρ.f 164)=true):Mm G P (ρ.f 164) kc:=L6 hc fun args res hr=>by
 unfold kc at hr
 split at hr
 ·rename_i s t
  split at hr
  ·rename_i hs
   cases hr
   refine⟨[.string s, .string t],[.bool (aA s t)],rfl,rfl,fun v hv=> ?_,fun w B hgw=> ?_⟩
   ·simp only[List.mem_cons,List.not_mem_nil,or_false]at hv
    subst hv;rfl
   ·have hT:=hG B w hgw
    refine Calls.mono (yl L s t w hs.1 (fun j b hb=> ?_) (fun r q hm=> ?_)) ?_
    ·have:=List.all_eq_true.1 hs.2 b (List.mem_of_getElem? hb)
     simpa [or_assoc] using this
    ·have hc:=fun i hi=>Lib.TabIs.cell hT hg i hi
     simp only[List.mem_cons,Prod.mk.injEq,List.not_mem_nil,or_false]at hm
     rcases hm with ⟨rfl,rfl⟩|⟨rfl,rfl⟩|⟨rfl,rfl⟩|⟨rfl,rfl⟩|⟨rfl,rfl⟩|⟨rfl,rfl⟩<;>exact hc _ (of_decide_eq_true rfl)
    ·rintro e w' ⟨rfl,hb⟩
     exact⟨rfl,hb⟩
  ·cases hr
 ·cases hr
end TT
namespace TT
open Go Go.RowKit
theorem Nr {w:World} {b o:Nat} {u:Value} (h:w.cell? ⟨b,o,none⟩=some u):b<w.heap.size:=by
 rcases Nat.lt_or_ge b w.heap.size with h'|h'
 ·exact h'
 ·simp[World.cell?,Array.getElem?_eq_none h']at h
theorem Tn {P:Program} {t e e':TypeId} {i:TypeInfo} {w:World} (ht:P.underlying t=some (.slice e)) (hi:P.info? e=some i)
  {g G k m c:Nat} {cur:Array Value} {q:Option Addr} {us:List Value} (hg:w.heap[g]? =some (.cells cur e' (0,0))) (hG:cur.size=G*i.size) (hl:us.length=m*i.size)
  (hq:m=0∨∃a,q=some a∧∀(j:Nat) u,us[j]? =some u→w.cell? (a.add j)=some u) (h1:∀u∈us,u.oneCell'=true) (hroom:k+m≤G):
  ∃w' cur',(∀ty,(Builtin.append_ #[t,t] ty #[.slice (some ⟨g,0,none⟩) k G, .slice q m c]).run P w= .ok (.slice (some ⟨g,0,none⟩) (k+m) G) w')∧w'.heap[g]? =some (.cells cur' e' (0,0))∧cur'.size=cur.size∧
   cur'.toList.take ((k+m)*i.size)=cur.toList.take (k*i.size)++us∧Below g w w':=by
 by_cases hm:m=0
 ·subst hm
  have hu:us=[]:=List.eq_nil_of_length_eq_zero (by simpa using hl)
  subst hu
  exact⟨w,cur,fun ty=>by simpa using Ls ht hi (by omega),hg,rfl,by simp,Below.refl _ _⟩
 ·rcases hq with hq|⟨a,rfl,hc⟩
  ·exact absurd hq hm
  ·have hle:k*i.size+us.length≤cur.size:=by rw[hl,hG,←Nat.add_mul];exact Nat.mul_le_mul_right _ hroom
   have hke:k*i.size≤cur.toList.length:=by rw[Array.length_toList];omega
   refine⟨_,_,fun ty=>kB ht hi (SW.of hg) hl hc h1 hroom hle,setRow_heap w g cur _ e' (0,0) hg, ?_, ?_,⟨rfl,rfl,rfl, ?_,fun b hb=>setRow_other w g b _ (by omega)⟩⟩
   ·simp only[List.size_toArray,List.length_append,List.length_take,List.length_drop,Array.length_toList];omega
   ·have hx:(List.take (k*i.size) cur.toList++us).length=(k+m)*i.size:=by
     rw[List.length_append,List.length_take,Nat.min_eq_left hke,hl,Nat.add_mul]
    rw[List.take_left' hx]
   ·simp[World.setRow]
end TT
namespace TT
open Go Go.RowKit
theorem d8 {w:World} {B:Nat→Prop} {r:Rows} {u:Value} {sz:Nat} (h:EV w B (.sl false r) u) (hr:∀row∈r,row.length=sz):
  ∃q c uss,u= .slice q r.length c∧Al w B sz r uss (fun _=>False)∧(r.length=0∨∃b o,q=some ⟨b,o,none⟩∧B b∧∀(j:Nat) v,uss.flatten[j]? =some v→w.cell? ⟨b,o+j,none⟩=some v):=by
 simp only[EV]at h
 obtain⟨q,c,rfl,_,_,h4⟩:=h
 rcases h4 with rfl|⟨b,o,s,rfl,h5,_,h7⟩
 ·exact⟨q,c,[],rfl,by simp only[Al];exact⟨trivial,fun _ h=>h⟩, .inl rfl⟩
 ·obtain⟨uss,m1,m2⟩:=h7.values
  exact⟨_,c,uss,rfl,m1.resz hr, .inr ⟨b,o,rfl,h5,m2⟩⟩
def Wb (P:Program) (f:FuncId) (sz byt:Nat) (e:TypeId):Prop:=∀(sb so sc:Nat) (q1 q2:Option Addr) (n1 c1 n2 c2:Nat) (us1 us2:List Value) (w:World),
  w.cell? ⟨sb,so,none⟩=some (.slice q1 n1 c1)→w.cell? ⟨sb,so+1,none⟩=some (.slice q2 n2 c2)→(n1+n2)*byt≤140737488351232→n1+n2≤1000000000000→
  us1.length=n1*sz→us2.length=n2*sz→(∀u∈us1,u.oneCell'=true)→(∀u∈us2,u.oneCell'=true)→
  (n1=0∨∃b o,q1=some ⟨b,o,none⟩∧b<w.heap.size∧∀(j:Nat) u,us1[j]? =some u→w.cell? ⟨b,o+j,none⟩=some u)→
  (n2=0∨∃b o,q2=some ⟨b,o,none⟩∧b<w.heap.size∧∀(j:Nat) u,us2[j]? =some u→w.cell? ⟨b,o+j,none⟩=some u)→
  Calls P f #[.slice (some ⟨sb,so,none⟩) 2 sc] w fun en w'=>(n1+n2=0∧en= .returned (.slice none 0 0)∧w'=w)∨
   (0<n1+n2∧∃G cur,en= .returned (.slice (some ⟨w.heap.size,0,none⟩) (n1+n2) G)∧w'.heap[w.heap.size]? =some (.cells cur e (0,0))∧cur.size=G*sz∧n1+n2≤G∧G≤maxLen∧cur.toList.take ((n1+n2)*sz)=us1++us2∧Below w.heap.size w w')
def Y6 (sz byt:Nat):Y3
 | [.t (.sl false [[.sl false r1],[.sl false r2]])]=>if((∀row∈r1,row.length=sz)∧(∀row∈r2,row.length=sz))∧(r1.length+r2.length)*byt≤140737488351232∧r1.length+r2.length≤1000000000000 then some ⟨[.t (.sl true (r1++r2))],[]⟩else none
 |_=>none
theorem ke {G:Gt} {P:Program} {f:FuncId} {sz byt:Nat} {e:TypeId} (h0:0<sz) (hc:NN P f=true) (h:Wb P f sz byt e):Mm G P f (Y6 sz byt):=by
 intro args res hr
 unfold Y6 at hr
 split at hr
 ·rename_i r1 r2
  split at hr
  ·rename_i hcnd
   obtain⟨⟨hl1,hl2⟩,hb,hn⟩:=hcnd
   cases hr
   refine⟨hc,fun w B L us ls hA hL hB hG=> ?_⟩
   simp only[BC,Bo]at hA
   obtain⟨u,us',S1,S2,l1,l2,rfl,⟨hs,_,e1,rfl⟩,⟨rfl,e2,rfl⟩,hsp,rfl⟩:=hA
   have hL0:∀b,¬L b:=fun b hb=>by rcases(hsp.1 b).1 hb with h|h;exact e1 b h;exact e2 b h
   simp only[EV]at hs
   obtain⟨q,cap,rfl,_,_,hrow⟩:=hs
   rcases hrow with hrow|⟨sb,so,s1,rfl,hBb,hs0,hrs⟩
   ·cases hrow
   simp only[CK,Ml]at hrs
   obtain⟨hs1,⟨⟨u1,k1,_,p1⟩,_⟩,_,⟨⟨u2,k2,_,p2⟩,_⟩,_⟩:=hrs
   have hs1':s1=1:=by simpa using hs1.symm
   subst hs1'
   obtain⟨q1,c1,uss1,rfl,m1,v1⟩:=d8 p1 hl1
   obtain⟨q2,c2,uss2,rfl,m2,v2⟩:=d8 p2 hl2
   have f1:=m1.flat
   have f2:=m2.flat
   refine Calls.mono (h sb so cap q1 q2 r1.length c1 r2.length c2 uss1.flatten uss2.flatten w k1 k2 hb hn f1 f2 m1.one m2.one (v1.imp id fun⟨b,o,x1,x2,x3⟩=>⟨b,o,x1,hB b x2,x3⟩) (v2.imp id fun⟨b,o,x1,x2,x3⟩=>⟨b,o,x1,hB b x2,x3⟩)) ?_
   rintro en w' (⟨z1,rfl,rfl⟩|⟨z1,Gc,cur,rfl,g1,g2,g3,g4,g5,g6⟩)
   ·obtain rfl:r1=[]:=List.eq_nil_of_length_eq_zero (by omega)
    obtain rfl:r2=[]:=List.eq_nil_of_length_eq_zero (by omega)
    refine⟨B,fun _=>False,fun _=>False,[.slice none 0 0], ?_⟩
    exact{ val:=rfl,vals:=by simp only[Eu,Vr,Fb];exact⟨_,_,fun _=>False,fun _=>False,rfl,⟨⟨none,0,rfl, .inl ⟨rfl,rfl,rfl,fun _ h=>h⟩⟩,rfl⟩,⟨rfl,fun _ h=>h⟩,⟨fun b=>by simp,fun b h _=>h⟩⟩,after:=by simp only[BT];exact⟨rfl,fun _ h=>h⟩,dis:=fun _ h=>h.elim,nr:=fun _ h=>h.elim,na:=fun _ h=>h.elim,old:=fun _ h=>h,sh:=fun _ h=> .inl h,ownr:=fun _ h=>h.elim,owna:=fun _ h=>h.elim,inB:=hB,frame:=fun b hb _=>rfl,size:=Nat.le_refl _,os:=rfl,tape:=rfl,output:=rfl }
   ·have hBB:Fx B w w':=fun b hb=>g6.block b (hB b hb)
    have hall:=Al.same (w':=w') (fun _ h=>h) hBB (fun b hb=>by rcases hb with h|h<;>exact h.elim) (Al.append m1 m2 (fun _ h=>h.elim))
    have hcell:∀(j:Nat) u,(uss1++uss2).flatten[j]? =some u→w'.cell? ⟨w.heap.size,0+j,none⟩=some u:=fun j u hj=>by
     rw[List.flatten_append,←g5,List.getElem?_take]at hj
     split at hj
     ·rw[Nat.zero_add,jm g1,←Array.getElem?_toList];exact hj
     ·cases hj
    have hne:r1++r2≠[]:=fun hh=>by have h3:=congrArg List.length hh;rw[List.length_append,List.length_nil]at h3;omega
    refine⟨B,fun b=>b=w.heap.size,fun _=>False,[.slice (some ⟨w.heap.size,0,none⟩) (r1.length+r2.length) Gc], ?_⟩
    have hown:H1 w' B (some ⟨w.heap.size,0,none⟩) Gc (r1++r2) (fun b=>b=w.heap.size):=
     .inr ⟨w.heap.size,sz,e,cur,fun _=>False∨False,rfl,SW.of g1,⟨by simpa using g3,fun hh=>absurd hh hne⟩,g4,g2,h0,⟨fun b=>by simp,fun b _ h=>by rcases h with h|h<;>exact h⟩,Cf.of_values hall hcell⟩
    exact{ val:=rfl,vals:=by
            simp only[Eu,Vr]
            exact⟨_,_,fun b=>b=w.heap.size,fun _=>False,rfl,⟨FM.2 ⟨_,Gc,by rw[List.length_append],hown⟩,rfl⟩,⟨rfl,fun _ h=>h⟩,⟨fun b=>by simp,fun b _ h=>h⟩⟩,after:=by simp only[BT];exact⟨rfl,fun _ h=>h⟩,dis:=fun _ _ h=>h.elim,nr:=fun b hb hB'=>by subst hb;exact absurd (hB _ hB') (Nat.lt_irrefl _),na:=fun _ h=>h.elim,old:=fun _ h=>h,sh:=fun _ h=> .inl h,ownr:=fun b hb=> .inr (by omega),owna:=fun _ h=>h.elim,inB:=fun b hb=>Nat.lt_of_lt_of_le (hB b hb) g6.size,frame:=fun b hb _=>g6.block b hb,size:=g6.size,os:=g6.os,tape:=g6.tape,output:=g6.output }
  ·cases hr
 ·cases hr
end TT
namespace TT
open Go Go.RowKit
def dnn (len k:Nat):List Nat:=(List.range k).map fun t=>len-1-t
def Prs (n₀:Nat) (W:World) (sv:Value) (len:Nat) (u:Nat→Nat→Value):Prop:=
 (len=0∧∃q cap,sv= .slice q 0 cap)∨∃b off cap,sv= .slice (some ⟨b,off,none⟩) len cap∧b<n₀∧∀j,j<len→W.cell? ⟨b,off+j*2,none⟩=some (u j 0)∧W.cell? ⟨b,off+j*2+1,none⟩=some (u j 1)
def uu (a c:Nat→ByteArray) (j k:Nat):Value:=if k=0 then .string (a j)else .string (c j)
def Ux (len:Nat) (a c:Nat→ByteArray) (p:ByteArray):ByteArray×Bool:=match (dnn len len).find? (fun j=>decide (a j=p))with
 |some j=>(c j,true)
 |none=>(⟨#[]⟩,decide (p=⟨#[]⟩))
def Pn (P:Program) (f:FuncId):Prop:=∀(q:Option Addr) (len cap:Nat) (a c:Nat→ByteArray) (p:ByteArray) (w:World),len≤1000000000000→Prs w.heap.size w (.slice q len cap) len (uu a c)→
 Calls P f #[.slice q len cap, .string p] w fun e w'=>e= .returned (.tuple #[.string (Ux len a c p).1, .bool (Ux len a c p).2])∧Below w.heap.size w w'
def HJ : Rows→Option (List (ByteArray×ByteArray))
 | []=>some []
 | [.v (.string a), .v (.string b)]::rs=>(HJ rs).map ((a,b):: ·)
 |_=>none
def I2 (l:List (ByteArray×ByteArray)) (p:ByteArray):ByteArray×Bool:=match l.reverse.find? (fun x=>decide (x.1=p))with
 |some x=>(x.2,true)
 |none=>(⟨#[]⟩,decide (p=⟨#[]⟩))
theorem A8H (l:List (ByteArray×ByteArray)):(dnn l.length l.length).map (fun j=>l.getD j default)=l.reverse:=by
 apply List.ext_getElem
 ·simp[dnn]
 ·intro i h1 h2
  simp only[List.length_reverse]at h2
  simp only[dnn,List.map_map,List.getElem_map,List.getElem_range,Function.comp,List.getElem_reverse,List.getD_eq_getElem?_getD]
  rw[List.getElem?_eq_getElem (by omega)]
  rfl
theorem qO (l:List (ByteArray×ByteArray)) (p:ByteArray):I2 l p=Ux l.length (fun j=>(l.getD j default).1) (fun j=>(l.getD j default).2) p:=by
 rw[I2,Ux,←A8H,List.find?_map]
 cases h:List.find? (fun j=>decide ((l.getD j default).1=p)) (dnn l.length l.length)with
 |none=>
  have h':List.find? ((fun x:ByteArray×ByteArray=>decide (x.1=p))∘fun j=>l.getD j default) (dnn l.length l.length)=none:=h
  rw[h'];rfl
 |some j=>
  have h':List.find? ((fun x:ByteArray×ByteArray=>decide (x.1=p))∘fun j=>l.getD j default) (dnn l.length l.length)=some j:=h
  rw[h'];rfl
def d9 : Y3
 | [.t (.sl false rows), .t (.v (.string p))]=>match HJ rows with
  |some l=>if l.length≤1000000000000 then some ⟨[.t (.v (.string (I2 l p).1)), .t (.v (.bool (I2 l p).2))],[]⟩else none
  |none=>none
 |_=>none
theorem gm {w:World} {B:Nat→Prop} {b:Nat}:∀{rs:Rows} {o sz:Nat} {l:List (ByteArray×ByteArray)},CK w B b o sz rs→HJ rs=some l→l.length=rs.length∧∀j,j<l.length→w.cell? ⟨b,o+j*2,none⟩=some (.string (l.getD j default).1)∧w.cell? ⟨b,o+j*2+1,none⟩=some (.string (l.getD j default).2)
 | [],o,sz,l,h,hp=>by
  cases hp
  exact⟨rfl,fun j hj=>by cases hj⟩
 |r::rs,o,sz,l,h,hp=>by
  unfold HJ at hp
  split at hp
  ·rename_i heq;cases heq
  ·rename_i a c rs' heq
   cases heq
   obtain⟨l',e1,rfl⟩:=Option.map_eq_some_iff.1 hp
   simp only[CK,Ml,EV]at h
   obtain⟨h0,⟨⟨u1,k1,_,rfl⟩,⟨u2,k2,_,rfl⟩,_⟩,h3⟩:=h
   have hs:sz=2:=by simpa using h0.symm
   subst hs
   obtain⟨g1,g2⟩:=gm h3 e1
   refine⟨by simp[g1],fun j hj=> ?_⟩
   cases j with
   |zero=>exact⟨by simpa using k1,by simpa using k2⟩
   |succ j=>
    have:=g2 j (by simpa using hj)
    rw[show o+(j+1)*2=o+2+j*2 by omega]
    simpa using this
  ·cases hp
theorem o9 {G:Gt} {P:Program} {f:FuncId} (hc:NN P f=true) (h:Pn P f):Mm G P f d9:=by
 intro args res hr
 unfold d9 at hr
 split at hr
 ·rename_i rows p
  split at hr
  ·rename_i l hl
   split at hr
   ·rename_i hn
    cases hr
    refine⟨hc,fun w B L us ls hA hL hB hG=> ?_⟩
    simp only[BC,Bo]at hA
    obtain⟨u,us',S1,S2,l1,l2,rfl,⟨hs,_,e1,rfl⟩,⟨u',us'',S3,S4,l3,l4,rfl,⟨hp,_,e3,rfl⟩,⟨rfl,e4,rfl⟩,hsp',rfl⟩,hsp,rfl⟩:=hA
    simp only[EV]at hp
    subst hp
    have hL0:L=fun _=>False:=funext fun b=>propext ⟨fun hb=>by rcases(hsp.1 b).1 hb with h|h;exact e1 b h;rcases(hsp'.1 b).1 h with h|h;exact e3 b h;exact e4 b h,fun h=>h.elim⟩
    subst hL0
    simp only[EV]at hs
    obtain⟨q,cap,rfl,_,_,hrow⟩:=hs
    have hlen:l.length=rows.length∧Prs w.heap.size w (.slice q rows.length cap) rows.length (uu (fun j=>(l.getD j default).1) (fun j=>(l.getD j default).2)):=by
     rcases hrow with rfl|⟨b,o,sz,rfl,hBb,_,hrs⟩
     ·cases hl;exact⟨rfl, .inl ⟨rfl,q,cap,rfl⟩⟩
     ·obtain⟨g1,g2⟩:=gm hrs hl
      exact⟨g1, .inr ⟨b,o,cap,rfl,hB b hBb,fun j hj=>g2 j (by omega)⟩⟩
    obtain⟨g1,g2⟩:=hlen
    refine Calls.mono (h q rows.length cap _ _ p w (by omega) g2) ?_
    rintro e w' ⟨rfl,hb⟩
    rw[←g1,←qO]
    exact bV (vs:=[.string (I2 l p).1, .bool (I2 l p).2]) hB hb (fun v hv=>by
     simp only[List.mem_cons,List.not_mem_nil,or_false]at hv
     rcases hv with rfl|rfl<;>rfl)
   ·cases hr
  ·cases hr
 ·cases hr
end TT
namespace TT
open Go Go.RowKit
def Uy (own:List (ByteArray×ByteArray)) (pre uri:ByteArray):Bool:=(I2 own pre).2&&decide ((I2 own pre).1=uri)
def Y7 : Rows→Option (List (ByteArray×ByteArray))
 | []=>some []
 | [.v (.string a), .v (.string _), .v (.string c), .v (.string _)]::rs=>(Y7 rs).map ((a,c):: ·)
 |_=>none
def dA (own:List (ByteArray×ByteArray)) (x:ByteArray×ByteArray):Bool:=decide (x.1=⟨#[]⟩)||Uy own x.1 x.2
mutual
def RO : List T→List (ByteArray×ByteArray)→Option Bool
 | [.v (.int .i64 k), .v (.string p), .v (.string _), .v (.string u), .sl false ds, .sl false at', .sl false ks, .v (.string _)],l=>
  match HJ ds,Y7 at' with
  |some d,some a=>if(l++d).length≤4000000 then
    match Uz ks (l++d)with
    |some b=>some (((decide (k≠1)||Uy (l++d) p u)&&a.all (dA (l++d)))&&b)
    |none=>none
   else none
  |_,_=>none
 |_,_=>none
def Uz : List (List T)→List (ByteArray×ByteArray)→Option Bool
 | [],_=>some true
 |r::rs,l=>match RO r l,Uz rs l with
  |some b,some c=>some (b&&c)
  |_,_=>none
end
def Y8 : List NH→Option (List T)
 | []=>some []
 | .t c::ar=>(Y8 ar).map (c:: ·)
 |_=>none
theorem A1H (ts:List T):Y8 (ts.map .t)=some ts:=by
 induction ts with
 |nil=>rfl
 |cons t ts ih=>simp[Y8,ih]
def kf : Y3
 | [.agg ar, .t (.sl false rows)]=>match Y8 ar,HJ rows with
  |some ts,some l=>(RO ts l).map fun b=>⟨[.t (.v (.bool b))],[]⟩
  |_,_=>none
 |_=>none
theorem zy {w:World} {B:Nat→Prop}:∀{ar:List NH} {ts:List T} {us:List Value} {L:Nat→Prop} {ls:List Hy},Y8 ar=some ts→BC w B ar us L ls→H4 w B ts us∧(∀b,¬L b)∧ls=[]
 | [],ts,us,L,ls,h,hA=>by
  cases h
  simp only[BC]at hA
  simp only[H4]
  exact hA
 | .t c::ar,ts,us,L,ls,h,hA=>by
  simp only[Y8]at h
  obtain⟨ts',h1,rfl⟩:=Option.map_eq_some_iff.1 h
  simp only[BC,Bo]at hA
  obtain⟨u,us',S1,S2,l1,l2,rfl,⟨g1,g2,g3,rfl⟩,hr,hs,rfl⟩:=hA
  obtain⟨k1,k2,rfl⟩:=zy h1 hr
  simp only[H4]
  exact⟨⟨u,us',rfl,g1,g2,k1⟩,fun b hb=>((hs.1 b).1 hb).elim (g3 b) (k2 b),by simp⟩
 | .agg _::ar,ts,us,L,ls,h,hA=>by simp[Y8]at h
 | .ln _::ar,ts,us,L,ls,h,hA=>by simp[Y8]at h
 | .lp _ _::ar,ts,us,L,ls,h,hA=>by simp[Y8]at h
 | .pp _::ar,ts,us,L,ls,h,hA=>by simp[Y8]at h
 | .fn _ _::ar,ts,us,L,ls,h,hA=>by simp[Y8]at h
def zz (P:Program) (f:FuncId):Prop:=∀(ts:List T) (l:List (ByteArray×ByteArray)) (b:Bool) (w:World) (B:Nat→Prop) (us:List Value) (rows:Rows) (u:Value),RO ts l=some b→(∀x,B x→x<w.heap.size)→H4 w B ts us→HJ rows=some l→EV w B (.sl false rows) u→
 Calls P f #[.agg us.toArray,u] w fun e w'=>e= .returned (.bool b)∧Below w.heap.size w w'
theorem sB {G:Gt} {P:Program} {f:FuncId} (hc:NN P f=true) (h:zz P f):Mm G P f kf:=by
 intro args res hr
 unfold kf at hr
 split at hr
 ·rename_i ar rows
  split at hr
  ·rename_i ts l hts hl
   obtain⟨b,hb,rfl⟩:=Option.map_eq_some_iff.1 hr
   refine⟨hc,fun w B L us ls hA hL hB hG=> ?_⟩
   simp only[BC,Bo]at hA
   obtain⟨u,us',S1,S2,l1,l2,rfl,⟨cs,rfl,ha⟩,⟨u',us'',S3,S4,l3,l4,rfl,⟨hp,_,e3,rfl⟩,⟨rfl,e4,rfl⟩,hsp',rfl⟩,hsp,rfl⟩:=hA
   obtain⟨g1,g2,rfl⟩:=zy hts ha
   have hL0:L=fun _=>False:=funext fun b=>propext ⟨fun hb=>by rcases(hsp.1 b).1 hb with h|h;exact g2 b h;rcases(hsp'.1 b).1 h with h|h;exact e3 b h;exact e4 b h,fun h=>h.elim⟩
   subst hL0
   refine Calls.mono (h ts l b w B cs.toList rows u' hb hB g1 hl hp) ?_
   rintro e w' ⟨rfl,hbw⟩
   exact bV (vs:=[.bool b]) hB hbw (fun v hv=>by
    simp only[List.mem_cons,List.not_mem_nil,or_false]at hv
    rw[hv];rfl)
  ·cases hr
 ·cases hr
end TT
namespace TT
open Go Go.RowKit
def cells2 : List (ByteArray×ByteArray)→List Value
 | []=>[]
 |x::l=> .string x.1:: .string x.2::cells2 l
theorem kg (l:List (ByteArray×ByteArray)):(cells2 l).length=l.length*2:=by
 induction l with
 |nil=>rfl
 |cons x l ih=>simp only[cells2,List.length_cons,ih];omega
theorem ym (l m:List (ByteArray×ByteArray)):cells2 (l++m)=cells2 l++cells2 m:=by
 induction l with
 |nil=>rfl
 |cons x l ih=>simp only[List.cons_append,cells2,ih]
theorem kh (l:List (ByteArray×ByteArray)):∀u∈cells2 l,u.oneCell'=true:=by
 induction l with
 |nil=>intro u h;cases h
 |cons x l ih=>
  intro u h
  simp only[cells2,List.mem_cons]at h
  rcases h with rfl|rfl|h
  ·rfl
  ·rfl
  ·exact ih u h
theorem qP : ∀ (l:List (ByteArray×ByteArray)) (j:Nat),j<l.length→(cells2 l)[j*2]? =some (.string (l.getD j default).1)∧(cells2 l)[j*2+1]? =some (.string (l.getD j default).2)
 |x::l,0,_=>⟨rfl,rfl⟩
 |x::l,j+1,h=>by
  have:=qP l j (by simpa using h)
  rw[show(j+1)*2=j*2+1+1 by omega]
  simpa [cells2] using this
def PrL (n₀:Nat) (W:World) (sv:Value) (l:List (ByteArray×ByteArray)):Prop:=
 ∃q cap,sv= .slice q l.length cap∧(l.length=0∨∃b off,q=some ⟨b,off,none⟩∧b<n₀∧∀(j:Nat) v,(cells2 l)[j]? =some v→W.cell? ⟨b,off+j,none⟩=some v)
theorem PrL.below {n₀:Nat} {X Y:World} {sv:Value} {l:List (ByteArray×ByteArray)} (h:PrL n₀ X sv l) (hb:Below n₀ X Y):PrL n₀ Y sv l:=by
 obtain⟨q,cap,e,h⟩:=h
 exact⟨q,cap,e,h.imp id fun⟨b,off,e1,e2,e3⟩=>⟨b,off,e1,e2,fun j v hj=>(hb.cell (p:=⟨b,off+j,none⟩) e2).trans (e3 j v hj)⟩⟩
theorem PrL.up {n₀ n₁:Nat} {X:World} {sv:Value} {l:List (ByteArray×ByteArray)} (h:PrL n₀ X sv l) (hn:n₀≤n₁):PrL n₁ X sv l:=by
 obtain⟨q,cap,e,h⟩:=h
 exact⟨q,cap,e,h.imp id fun⟨b,off,e1,e2,e3⟩=>⟨b,off,e1,by omega,e3⟩⟩
theorem PrL.one {n₀:Nat} {X:World} {sv:Value} {l:List (ByteArray×ByteArray)} (h:PrL n₀ X sv l):sv.oneCell'=true:=by
 obtain⟨q,cap,rfl,_⟩:=h
 rfl
theorem PrL.prs {n₀:Nat} {X:World} {sv:Value} {l:List (ByteArray×ByteArray)} (h:PrL n₀ X sv l):Prs n₀ X sv l.length (uu (fun j=>(l.getD j default).1) (fun j=>(l.getD j default).2)):=by
 obtain⟨q,cap,rfl,h⟩:=h
 rcases h with h|⟨b,off,rfl,h2,h3⟩
 ·exact .inl ⟨h,q,cap,by rw[h]⟩
 ·refine .inr ⟨b,off,cap,rfl,h2,fun j hj=> ?_⟩
  obtain⟨e1,e2⟩:=qP l j hj
  exact⟨h3 _ _ e1,by have:=h3 _ _ e2;rwa [←Nat.add_assoc]at this⟩
theorem CK.cells2 {w:World} {B:Nat→Prop} {b:Nat}:∀{rs:Rows} {o sz:Nat} {l:List (ByteArray×ByteArray)},CK w B b o sz rs→HJ rs=some l→l.length=rs.length∧∀(j:Nat) v,(TT.cells2 l)[j]? =some v→w.cell? ⟨b,o+j,none⟩=some v
 | [],o,sz,l,h,hp=>by
  cases hp
  exact⟨rfl,fun j v hj=>by simp[TT.cells2]at hj⟩
 |r::rs,o,sz,l,h,hp=>by
  unfold HJ at hp
  split at hp
  ·rename_i heq;cases heq
  ·rename_i a c rs' heq
   cases heq
   obtain⟨l',e1,rfl⟩:=Option.map_eq_some_iff.1 hp
   simp only[CK,Ml,EV]at h
   obtain⟨h0,⟨⟨u1,k1,_,rfl⟩,⟨u2,k2,_,rfl⟩,_⟩,h3⟩:=h
   have hs:sz=2:=by simpa using h0.symm
   subst hs
   obtain⟨g1,g2⟩:=CK.cells2 h3 e1
   refine⟨by simp[g1],fun j v hj=> ?_⟩
   match j,hj with
   |0,hj=>simp only[TT.cells2]at hj;cases hj;exact k1
   |1,hj=>simp only[TT.cells2]at hj;cases hj;exact k2
   |j+2,hj=>
    have:=g2 j v (by simpa [TT.cells2] using hj)
    rw[show o+(j+2)=o+2+j by omega]
    exact this
  ·cases hp
theorem EV.prl {n₀:Nat} {w:World} {B:Nat→Prop} {rows:Rows} {u:Value} {l:List (ByteArray×ByteArray)} (h:EV w B (.sl false rows) u) (hl:HJ rows=some l) (hB:∀b,B b→b<n₀):PrL n₀ w u l:=by
 simp only[EV]at h
 obtain⟨q,cap,rfl,_,_,h4⟩:=h
 rcases h4 with rfl|⟨b,o,sz,rfl,h6,h7,h8⟩
 ·cases hl
  exact⟨q,cap,rfl, .inl rfl⟩
 ·obtain⟨g1,g2⟩:=CK.cells2 h8 hl
  exact⟨_,cap,by rw[g1], .inr ⟨b,o,rfl,hB b h6,g2⟩⟩
theorem Ml.vals {w:World} {B:Nat→Prop} {b:Nat}:∀{ts:List T} {o:Nat},Ml w B b o ts→∃us,H4 w B ts us∧∀(i:Nat) x,us[i]? =some x→w.cell? ⟨b,o+i,none⟩=some x
 | [],o,h=>⟨[],by simp only[H4],fun i x hx=>by simp at hx⟩
 |t::ts,o,h=>by
  simp only[Ml]at h
  obtain⟨⟨u,h1,h2,h3⟩,h4⟩:=h
  obtain⟨us,g1,g2⟩:=Ml.vals h4
  refine⟨u::us,by simp only[H4];exact⟨u,us,rfl,h3,h2,g1⟩,fun i x hx=> ?_⟩
  cases i with
  |zero=>simp at hx;subst hx;exact h1
  |succ i=>have:=g2 i x (by simpa using hx);rwa [show o+1+i=o+(i+1) by omega]at this
theorem CK.elems {w:World} {B:Nat→Prop} {b:Nat}:∀{rs:Rows} {o sz:Nat},CK w B b o sz rs→∀(j:Nat) r,rs[j]? =some r→∃us,us.length=sz∧H4 w B r us∧∀(i:Nat) x,us[i]? =some x→w.cell? ⟨b,o+j*sz+i,none⟩=some x
 | [],o,sz,h,j,r,hj=>by simp at hj
 |r0::rs,o,sz,h,j,r,hj=>by
  simp only[CK]at h
  obtain⟨h0,h1,h2⟩:=h
  cases j with
  |zero=>
   simp at hj;subst hj
   obtain⟨us,g1,g2⟩:=Ml.vals h1
   exact⟨us,by rw[H4.length g1,h0],g1,fun i x hx=>by have:=g2 i x hx;simpa using this⟩
  |succ j=>
   obtain⟨us,g1,g2,g3⟩:=CK.elems h2 j r (by simpa using hj)
   refine⟨us,g1,g2,fun i x hx=> ?_⟩
   have:=g3 i x hx
   rwa [show o+sz+j*sz+i=o+(j+1)*sz+i by rw[Nat.succ_mul];omega]at this
theorem H4.same {w w':World} {B B':Nat→Prop} (hB:∀b,B b→B' b) (h:Fx B w w'):∀{ts:List T} {us:List Value},H4 w B ts us→H4 w' B' ts us
 | [],us,hh=>by simpa [H4] using hh
 |t::ts,us,hh=>by
  simp only[H4]at hh ⊢
  obtain⟨u,us',e,h1,h2,h3⟩:=hh
  exact⟨u,us',e,EV.same hB h h1,h2,H4.same hB h h3⟩
theorem ki {l:List (ByteArray×ByteArray)}:∀{rs:Rows} {b:Bool},Uz rs l=some b→(b=rs.all fun r=>(RO r l).getD false)∧∀r∈rs,∃c,RO r l=some c
 | [],b,h=>by
  simp only[Uz]at h
  cases h
  exact⟨rfl,fun r h=>by cases h⟩
 |r::rs,b,h=>by
  simp only[Uz]at h
  split at h
  ·rename_i b1 c1 e1 e2
   cases h
   obtain⟨g1,g2⟩:=ki e2
   refine⟨by simp[e1,g1],fun x hx=> ?_⟩
   rcases List.mem_cons.1 hx with rfl|hx
   ·exact⟨b1,e1⟩
   ·exact g2 x hx
  ·cases h
theorem fB {ts:List T} {l:List (ByteArray×ByteArray)} {b:Bool} (h:RO ts l=some b):∃k p x u ds at' ks t d a c,ts=[.v (.int .i64 k), .v (.string p), .v (.string x), .v (.string u), .sl false ds, .sl false at', .sl false ks, .v (.string t)]∧
  HJ ds=some d∧Y7 at'=some a∧(l++d).length≤4000000∧Uz ks (l++d)=some c∧b=(((decide (k≠1)||Uy (l++d) p u)&&a.all (dA (l++d)))&&c):=by
 unfold RO at h
 split at h
 ·split at h
  ·rename_i h1 h2
   split at h
   ·rename_i hn
    split at h
    ·rename_i h3
     cases h
     exact⟨_,_,_,_,_,_,_,_,_,_,_,rfl,h1,h2,hn,h3,rfl⟩
    ·cases h
   ·cases h
  ·cases h
 ·cases h
theorem kj : ∀ {at':Rows} {a:List (ByteArray×ByteArray)},Y7 at'=some a→a.length=at'.length∧∀(j:Nat) r,at'[j]? =some r→∃x y z t,r=[.v (.string x), .v (.string y), .v (.string z), .v (.string t)]∧a[j]? =some (x,z)
 | [],a,h=>by cases h;exact⟨rfl,fun j r hj=>by simp at hj⟩
 |r0::at',a,h=>by
  unfold Y7 at h
  split at h
  ·rename_i heq;cases heq
  ·rename_i x y z t rs heq
   cases heq
   obtain⟨a',e1,rfl⟩:=Option.map_eq_some_iff.1 h
   obtain⟨g1,g2⟩:=kj e1
   refine⟨by simp[g1],fun j r hj=> ?_⟩
   cases j with
   |zero=>simp at hj;subst hj;exact⟨x,y,z,t,rfl,by simp⟩
   |succ j=>obtain⟨x,y,z,t,e,e'⟩:=g2 j r (by simpa using hj);exact⟨x,y,z,t,e,by simpa using e'⟩
  ·cases h
end TT
namespace TT
open Go Go.RowKit
def kl (P:Program) (f:FuncId) (sz byt:Nat) (e:TypeId):Prop:=∀(sb so sc:Nat) (q1 q2 q3:Option Addr) (n1 c1 n2 c2 n3 c3:Nat) (us1 us2 us3:List Value) (w:World),
  w.cell? ⟨sb,so,none⟩=some (.slice q1 n1 c1)→w.cell? ⟨sb,so+1,none⟩=some (.slice q2 n2 c2)→w.cell? ⟨sb,so+2,none⟩=some (.slice q3 n3 c3)→(n1+n2+n3)*byt≤140737488351232→n1+n2+n3≤1000000000000→
  us1.length=n1*sz→us2.length=n2*sz→us3.length=n3*sz→(∀u∈us1,u.oneCell'=true)→(∀u∈us2,u.oneCell'=true)→(∀u∈us3,u.oneCell'=true)→
  (n1=0∨∃b o,q1=some ⟨b,o,none⟩∧b<w.heap.size∧∀(j:Nat) u,us1[j]? =some u→w.cell? ⟨b,o+j,none⟩=some u)→
  (n2=0∨∃b o,q2=some ⟨b,o,none⟩∧b<w.heap.size∧∀(j:Nat) u,us2[j]? =some u→w.cell? ⟨b,o+j,none⟩=some u)→
  (n3=0∨∃b o,q3=some ⟨b,o,none⟩∧b<w.heap.size∧∀(j:Nat) u,us3[j]? =some u→w.cell? ⟨b,o+j,none⟩=some u)→
  Calls P f #[.slice (some ⟨sb,so,none⟩) 3 sc] w fun en w'=>(n1+n2+n3=0∧en= .returned (.slice none 0 0)∧w'=w)∨
   (0<n1+n2+n3∧∃G cur,en= .returned (.slice (some ⟨w.heap.size,0,none⟩) (n1+n2+n3) G)∧w'.heap[w.heap.size]? =some (.cells cur e (0,0))∧cur.size=G*sz∧n1+n2+n3≤G∧G≤maxLen∧cur.toList.take ((n1+n2+n3)*sz)=us1++us2++us3∧Below w.heap.size w w')
def Vw (sz byt:Nat):Y3
 | [.t (.sl false [[.sl false r1],[.sl false r2],[.sl false r3]])]=>if((∀row∈r1,row.length=sz)∧(∀row∈r2,row.length=sz)∧(∀row∈r3,row.length=sz))∧(r1.length+r2.length+r3.length)*byt≤140737488351232∧r1.length+r2.length+r3.length≤1000000000000 then some ⟨[.t (.sl true (r1++r2++r3))],[]⟩else none
 |_=>none
theorem iM {G:Gt} {P:Program} {f:FuncId} {sz byt:Nat} {e:TypeId} (h0:0<sz) (hc:NN P f=true) (h:kl P f sz byt e):Mm G P f (Vw sz byt):=by
 intro args res hr
 unfold Vw at hr
 split at hr
 ·rename_i r1 r2 r3
  split at hr
  ·rename_i hcnd
   obtain⟨⟨hl1,hl2,hl3⟩,hb,hn⟩:=hcnd
   cases hr
   refine⟨hc,fun w B L us ls hA hL hB hG=> ?_⟩
   simp only[BC,Bo]at hA
   obtain⟨u,us',S1,S2,l1,l2,rfl,⟨hs,_,e1,rfl⟩,⟨rfl,e2,rfl⟩,hsp,rfl⟩:=hA
   have hL0:∀b,¬L b:=fun b hb=>by rcases(hsp.1 b).1 hb with h|h;exact e1 b h;exact e2 b h
   simp only[EV]at hs
   obtain⟨q,cap,rfl,_,_,hrow⟩:=hs
   rcases hrow with hrow|⟨sb,so,s1,rfl,hBb,hs0,hrs⟩
   ·cases hrow
   simp only[CK,Ml]at hrs
   obtain⟨hs1,⟨⟨u1,k1,_,p1⟩,_⟩,_,⟨⟨u2,k2,_,p2⟩,_⟩,_,⟨⟨u3,k3,_,p3⟩,_⟩,_⟩:=hrs
   have hs1':s1=1:=by simpa using hs1.symm
   subst hs1'
   obtain⟨q1,c1,uss1,rfl,m1,v1⟩:=d8 p1 hl1
   obtain⟨q2,c2,uss2,rfl,m2,v2⟩:=d8 p2 hl2
   obtain⟨q3,c3,uss3,rfl,m3,v3⟩:=d8 p3 hl3
   have f1:=m1.flat
   have f2:=m2.flat
   have f3:=m3.flat
   refine Calls.mono (h sb so cap q1 q2 q3 r1.length c1 r2.length c2 r3.length c3 uss1.flatten uss2.flatten uss3.flatten w k1 k2 (by rw[show so+2=so+1+1 from rfl];exact k3) hb hn f1 f2 f3 m1.one m2.one m3.one (v1.imp id fun⟨b,o,x1,x2,x3⟩=>⟨b,o,x1,hB b x2,x3⟩) (v2.imp id fun⟨b,o,x1,x2,x3⟩=>⟨b,o,x1,hB b x2,x3⟩) (v3.imp id fun⟨b,o,x1,x2,x3⟩=>⟨b,o,x1,hB b x2,x3⟩)) ?_
   rintro en w' (⟨z1,rfl,rfl⟩|⟨z1,Gc,cur,rfl,g1,g2,g3,g4,g5,g6⟩)
   ·obtain rfl:r1=[]:=List.eq_nil_of_length_eq_zero (by omega)
    obtain rfl:r2=[]:=List.eq_nil_of_length_eq_zero (by omega)
    obtain rfl:r3=[]:=List.eq_nil_of_length_eq_zero (by omega)
    refine⟨B,fun _=>False,fun _=>False,[.slice none 0 0], ?_⟩
    exact{ val:=rfl,vals:=by simp only[Eu,Vr,Fb];exact⟨_,_,fun _=>False,fun _=>False,rfl,⟨⟨none,0,rfl, .inl ⟨rfl,rfl,rfl,fun _ h=>h⟩⟩,rfl⟩,⟨rfl,fun _ h=>h⟩,⟨fun b=>by simp,fun b h _=>h⟩⟩,after:=by simp only[BT];exact⟨rfl,fun _ h=>h⟩,dis:=fun _ h=>h.elim,nr:=fun _ h=>h.elim,na:=fun _ h=>h.elim,old:=fun _ h=>h,sh:=fun _ h=> .inl h,ownr:=fun _ h=>h.elim,owna:=fun _ h=>h.elim,inB:=hB,frame:=fun b hb _=>rfl,size:=Nat.le_refl _,os:=rfl,tape:=rfl,output:=rfl }
   ·have hBB:Fx B w w':=fun b hb=>g6.block b (hB b hb)
    have hall:=Al.same (w':=w') (fun _ h=>h) hBB (fun b hb=>by rcases hb with (h|h)|h<;>exact h.elim) (Al.append (Al.append m1 m2 (fun _ h=>h.elim)) m3 (fun _ h=>by rcases h with h|h<;>exact h.elim))
    have hcell:∀(j:Nat) u,(uss1++uss2++uss3).flatten[j]? =some u→w'.cell? ⟨w.heap.size,0+j,none⟩=some u:=fun j u hj=>by
     rw[List.flatten_append,List.flatten_append,←g5,List.getElem?_take]at hj
     split at hj
     ·rw[Nat.zero_add,jm g1,←Array.getElem?_toList];exact hj
     ·cases hj
    have hne:r1++r2++r3≠[]:=fun hh=>by have h3:=congrArg List.length hh;rw[List.length_append,List.length_append,List.length_nil]at h3;omega
    refine⟨B,fun b=>b=w.heap.size,fun _=>False,[.slice (some ⟨w.heap.size,0,none⟩) (r1.length+r2.length+r3.length) Gc], ?_⟩
    have hown:H1 w' B (some ⟨w.heap.size,0,none⟩) Gc (r1++r2++r3) (fun b=>b=w.heap.size):=
     .inr ⟨w.heap.size,sz,e,cur,fun _=>(False∨False)∨False,rfl,SW.of g1,⟨by simpa only[List.length_append] using g3,fun hh=>absurd hh hne⟩,g4,g2,h0,⟨fun b=>by simp,fun b _ h=>by rcases h with (h|h)|h<;>exact h⟩,Cf.of_values hall hcell⟩
    exact{ val:=rfl,vals:=by
            simp only[Eu,Vr]
            exact⟨_,_,fun b=>b=w.heap.size,fun _=>False,rfl,⟨FM.2 ⟨_,Gc,by rw[List.length_append,List.length_append],hown⟩,rfl⟩,⟨rfl,fun _ h=>h⟩,⟨fun b=>by simp,fun b _ h=>h⟩⟩,after:=by simp only[BT];exact⟨rfl,fun _ h=>h⟩,dis:=fun _ _ h=>h.elim,nr:=fun b hb hB'=>by subst hb;exact absurd (hB _ hB') (Nat.lt_irrefl _),na:=fun _ h=>h.elim,old:=fun _ h=>h,sh:=fun _ h=> .inl h,ownr:=fun b hb=> .inr (by omega),owna:=fun _ h=>h.elim,inB:=fun b hb=>Nat.lt_of_lt_of_le (hB b hb) g6.size,frame:=fun b hb _=>g6.block b hb,size:=g6.size,os:=g6.os,tape:=g6.tape,output:=g6.output }
  ·cases hr
 ·cases hr
def Po (sz byt:Nat):Y3:=fun args=>match Y6 sz byt args with
 |some r=>some r
 |none=>Vw sz byt args
theorem iN {G:Gt} {P:Program} {f:FuncId} {sz byt:Nat} {e:TypeId} (h0:0<sz) (hc:NN P f=true) (h:Wb P f sz byt e) (h3:kl P f sz byt e):Mm G P f (Po sz byt):=by
 intro args res hr
 unfold Po at hr
 split at hr
 ·rename_i r hx
  cases hr
  exact ke h0 hc h args _ hx
 ·exact iM h0 hc h3 args res hr
end TT
