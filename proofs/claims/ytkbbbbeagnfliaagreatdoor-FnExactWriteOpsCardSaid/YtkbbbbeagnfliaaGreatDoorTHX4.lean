import Derived.Test.YtkbbbbeagnfliaaGreatDoorTHX
import Derived.Test.YtkbbbbeagnfliaaGreatDoorTEqF
import Derived.Test.YtkbbbbeagnfliaaGreatDoorTD13
import Derived.Below
import Derived.Test.YtkbbbbeagnfliaaGreatDoorTE
import Derived.Lib.Replace
set_option linter.unusedVariables false
set_option linter.unusedSimpArgs false
set_option maxRecDepth 100000
namespace TT
open Go Go.RowKit
def Mw (s t:ByteArray):Int:=Lib.compareBytes s.data.toList t.data.toList
def ZT : cC
 | [.t (.v (.string s)), .t (.v (.string t))]=>some ⟨[.t (.v (.int .i64 (Mw s t)))],[]⟩
 |_=>none
theorem tQ (s t:ByteArray) {r:Int} {e:Int→Ay} (he:∀r,e r=⟨[.t (.v (.int .i64 r))],[]⟩) (hr:some (Mw s t)=some r):ZT [.t (.v (.string s)), .t (.v (.string t))]=some (e r):=by
 cases hr
 rw[he];rfl
theorem iZ {G:Gt} {P:Program} {f:FuncId} (hc:PH P f=true) (h:∀(s t:ByteArray) (w:World),Calls P f #[.string s, .string t] w fun e w'=>e= .returned (.int .i64 (Lib.compareBytes s.data.toList t.data.toList))∧w'=w):PP G P f ZT:=Hr hc fun args res hr=>by
 unfold ZT at hr
 split at hr
 ·rename_i s t
  cases hr
  refine⟨[.string s, .string t],[.int .i64 (Mw s t)],rfl,rfl,fun v hv=> ?_,fun w B hG=>Calls.mono (h s t w) ?_⟩
  ·simp only[List.mem_cons,List.not_mem_nil,or_false]at hv
   subst hv;rfl
  ·rintro e w' ⟨rfl,rfl⟩
   exact⟨rfl,⟨rfl,rfl,rfl,Nat.le_refl _,fun _ _=>rfl⟩⟩
 ·cases hr
def foldL : List Int:=[0,1,2,3,4,5,6,7,8,9,10,11,12,13,14,15,16,17,18,19,20,21,22,23,24,25,26,27,28,29,30,31,32,33,34,35,36,37,38,39,40,41,42,43,44,45,46,47,48,49,50,51,52,53,54,55,56,57,58,59,60,61,62,63,64,97,98,99,100,101,102,103,104,105,106,107,108,109,110,111,112,113,114,115,116,117,118,119,120,121,122,91,92,93,94,95,96,65,66,67,68,69,70,71,72,73,74,8490,76,77,78,79,80,81,82,383,84,85,86,87,88,89,90,123,124,125,126,127]
def ABw (t:ByteArray):Bool:=t.data.toList.all fun b=>b==120||b==109||b==108
def aK (s t:ByteArray):Bool:=Lib.equalFold s.data.toList t.data.toList
def lg : cC
 | [.t (.v (.string s)), .t (.v (.string t))]=>if s.size<4294967281∧ABw t=true then some ⟨[.t (.v (.bool (aK s t)))],[]⟩else none
 |_=>none
theorem A25 (s t:ByteArray) {r:Bool} {e:Bool→Ay} (he:∀r,e r=⟨[.t (.v (.bool r))],[]⟩) (hr:(if s.size<4294967281∧ABw t=true then some (aK s t)else none)=some r):lg [.t (.v (.string s)), .t (.v (.string t))]=some (e r):=by
 split at hr
 ·rename_i h
  cases hr
  rw[he]
  simp only[lg,h,and_self,if_true]
 ·cases hr
theorem tR {G:Gt} {P:Program} {ρ:Go.Shelf.Ren} (L:Go.Proofs.Lays.n164 P ρ) (hG:∀B w,G.ok B w→Lib.TabIs P w "unicode.asciiFold" .u16 foldL) (hg:P.globalNamed "unicode.asciiFold" =some (ρ.g 11)) (hc:PH P (ρ.f 164)=true):PP G P (ρ.f 164) lg:=Hr hc fun args res hr=>by
 unfold lg at hr
 split at hr
 ·rename_i s t
  split at hr
  ·rename_i hs
   cases hr
   refine⟨[.string s, .string t],[.bool (aK s t)],rfl,rfl,fun v hv=> ?_,fun w B hgw=> ?_⟩
   ·simp only[List.mem_cons,List.not_mem_nil,or_false]at hv
    subst hv;rfl
   ·have hT:=hG B w hgw
    refine Calls.mono (za L s t w hs.1 (fun j b hb=> ?_) (fun r q hm=> ?_)) ?_
    ·have:=List.all_eq_true.1 hs.2 b (List.mem_of_getElem? hb)
     simpa [or_assoc] using this
    ·have hc:=fun i hi=>Lib.TabIs.cell hT hg i hi
     simp only[List.mem_cons,Prod.mk.injEq,List.not_mem_nil,or_false]at hm
     rcases hm with ⟨rfl,rfl⟩|⟨rfl,rfl⟩|⟨rfl,rfl⟩|⟨rfl,rfl⟩|⟨rfl,rfl⟩|⟨rfl,rfl⟩<;>exact hc _ (of_decide_eq_true rfl)
    ·rintro e w' ⟨rfl,hb⟩
     exact⟨rfl,hb⟩
  ·cases hr
 ·cases hr
end TT
namespace TT
open Go Go.RowKit
theorem TU {w:World} {b o:Nat} {u:Value} (h:w.cell? ⟨b,o,none⟩=some u):b<w.heap.size:=by
 rcases Nat.lt_or_ge b w.heap.size with h'|h'
 ·exact h'
 ·simp[World.cell?,Array.getElem?_eq_none h']at h
theorem wq {P:Program} {t e e':TypeId} {i:TypeInfo} {w:World} (ht:P.underlying t=some (.slice e)) (hi:P.info? e=some i)
  {g G k m c:Nat} {cur:Array Value} {q:Option Addr} {us:List Value} (hg:w.heap[g]? =some (.cells cur e' (0,0))) (hG:cur.size=G*i.size) (hl:us.length=m*i.size)
  (hq:m=0∨∃a,q=some a∧∀(j:Nat) u,us[j]? =some u→w.cell? (a.add j)=some u) (h1:∀u∈us,u.oneCell'=true) (hroom:k+m≤G):
  ∃w' cur',(∀ty,(Builtin.append_ #[t,t] ty #[.slice (some ⟨g,0,none⟩) k G, .slice q m c]).run P w= .ok (.slice (some ⟨g,0,none⟩) (k+m) G) w')∧w'.heap[g]? =some (.cells cur' e' (0,0))∧cur'.size=cur.size∧
   cur'.toList.take ((k+m)*i.size)=cur.toList.take (k*i.size)++us∧Below g w w':=by
 by_cases hm:m=0
 ·subst hm
  have hu:us=[]:=List.eq_nil_of_length_eq_zero (by simpa using hl)
  subst hu
  exact⟨w,cur,fun ty=>by simpa using Xb ht hi (by omega),hg,rfl,by simp,Below.refl _ _⟩
 ·rcases hq with hq|⟨a,rfl,hc⟩
  ·exact absurd hq hm
  ·have hle:k*i.size+us.length≤cur.size:=by rw[hl,hG,←Nat.add_mul];exact Nat.mul_le_mul_right _ hroom
   have hke:k*i.size≤cur.toList.length:=by rw[Array.length_toList];omega
   refine⟨_,_,fun ty=>kx ht hi (TD.of hg) hl hc h1 hroom hle,setRow_heap w g cur _ e' (0,0) hg, ?_, ?_,⟨rfl,rfl,rfl, ?_,fun b hb=>setRow_other w g b _ (by omega)⟩⟩
   ·simp only[List.size_toArray,List.length_append,List.length_take,List.length_drop,Array.length_toList];omega
   ·have hx:(List.take (k*i.size) cur.toList++us).length=(k+m)*i.size:=by
     rw[List.length_append,List.length_take,Nat.min_eq_left hke,hl,Nat.add_mul]
    rw[List.take_left' hx]
   ·simp[World.setRow]
end TT
namespace TT
open Go Go.RowKit
def kX (P:Program) (f:FuncId) (sz byt:Nat) (e:TypeId):Prop:=∀(sb so sc:Nat) (q1 q2:Option Addr) (n1 c1 n2 c2:Nat) (us1 us2:List Value) (w:World),
  w.cell? ⟨sb,so,none⟩=some (.slice q1 n1 c1)→w.cell? ⟨sb,so+1,none⟩=some (.slice q2 n2 c2)→(n1+n2)*byt≤140737488351232→n1+n2≤1000000000000→
  us1.length=n1*sz→us2.length=n2*sz→(∀u∈us1,u.oneCell'=true)→(∀u∈us2,u.oneCell'=true)→
  (n1=0∨∃b o,q1=some ⟨b,o,none⟩∧b<w.heap.size∧∀(j:Nat) u,us1[j]? =some u→w.cell? ⟨b,o+j,none⟩=some u)→
  (n2=0∨∃b o,q2=some ⟨b,o,none⟩∧b<w.heap.size∧∀(j:Nat) u,us2[j]? =some u→w.cell? ⟨b,o+j,none⟩=some u)→
  Calls P f #[.slice (some ⟨sb,so,none⟩) 2 sc] w fun en w'=>(n1+n2=0∧en= .returned (.slice none 0 0)∧w'=w)∨
   (0<n1+n2∧∃G cur,en= .returned (.slice (some ⟨w.heap.size,0,none⟩) (n1+n2) G)∧w'.heap[w.heap.size]? =some (.cells cur e (0,0))∧cur.size=G*sz∧n1+n2≤G∧G≤maxLen∧cur.toList.take ((n1+n2)*sz)=us1++us2∧Below w.heap.size w w')
end TT
namespace TT
open Go Go.RowKit
def dnn (len k:Nat):List Nat:=(List.range k).map fun t=>len-1-t
def Prs (n₀:Nat) (W:World) (sv:Value) (len:Nat) (u:Nat→Nat→Value):Prop:=
 (len=0∧∃q cap,sv= .slice q 0 cap)∨∃b off cap,sv= .slice (some ⟨b,off,none⟩) len cap∧b<n₀∧∀j,j<len→W.cell? ⟨b,off+j*2,none⟩=some (u j 0)∧W.cell? ⟨b,off+j*2+1,none⟩=some (u j 1)
def uu (a c:Nat→ByteArray) (j k:Nat):Value:=if k=0 then .string (a j)else .string (c j)
def Ui (len:Nat) (a c:Nat→ByteArray) (p:ByteArray):ByteArray×Bool:=match (dnn len len).find? (fun j=>decide (a j=p))with
 |some j=>(c j,true)
 |none=>(⟨#[]⟩,decide (p=⟨#[]⟩))
def PR (P:Program) (f:FuncId):Prop:=∀(q:Option Addr) (len cap:Nat) (a c:Nat→ByteArray) (p:ByteArray) (w:World),len≤1000000000000→Prs w.heap.size w (.slice q len cap) len (uu a c)→
 Calls P f #[.slice q len cap, .string p] w fun e w'=>e= .returned (.tuple #[.string (Ui len a c p).1, .bool (Ui len a c p).2])∧Below w.heap.size w w'
def GV : Rows→Option (List (ByteArray×ByteArray))
 | []=>some []
 | [.v (.string a), .v (.string b)]::rs=>(GV rs).map ((a,b):: ·)
 |_=>none
def BE (l:List (ByteArray×ByteArray)) (p:ByteArray):ByteArray×Bool:=match l.reverse.find? (fun x=>decide (x.1=p))with
 |some x=>(x.2,true)
 |none=>(⟨#[]⟩,decide (p=⟨#[]⟩))
theorem A8y (l:List (ByteArray×ByteArray)):(dnn l.length l.length).map (fun j=>l.getD j default)=l.reverse:=by
 apply List.ext_getElem
 ·simp[dnn]
 ·intro i h1 h2
  simp only[List.length_reverse]at h2
  simp only[dnn,List.map_map,List.getElem_map,List.getElem_range,Function.comp,List.getElem_reverse,List.getD_eq_getElem?_getD]
  rw[List.getElem?_eq_getElem (by omega)]
  rfl
theorem rc (l:List (ByteArray×ByteArray)) (p:ByteArray):BE l p=Ui l.length (fun j=>(l.getD j default).1) (fun j=>(l.getD j default).2) p:=by
 rw[BE,Ui,←A8y,List.find?_map]
 cases h:List.find? (fun j=>decide ((l.getD j default).1=p)) (dnn l.length l.length)with
 |none=>
  have h':List.find? ((fun x:ByteArray×ByteArray=>decide (x.1=p))∘fun j=>l.getD j default) (dnn l.length l.length)=none:=h
  rw[h'];rfl
 |some j=>
  have h':List.find? ((fun x:ByteArray×ByteArray=>decide (x.1=p))∘fun j=>l.getD j default) (dnn l.length l.length)=some j:=h
  rw[h'];rfl
def dX : cC
 | [.t (.sl false rows), .t (.v (.string p))]=>match GV rows with
  |some l=>if l.length≤1000000000000 then some ⟨[.t (.v (.string (BE l p).1)), .t (.v (.bool (BE l p).2))],[]⟩else none
  |none=>none
 |_=>none
theorem iG {w:World} {B:Nat→Prop} {b:Nat}:∀{rs:Rows} {o sz:Nat} {l:List (ByteArray×ByteArray)},C5 w B b o sz rs→GV rs=some l→l.length=rs.length∧∀j,j<l.length→w.cell? ⟨b,o+j*2,none⟩=some (.string (l.getD j default).1)∧w.cell? ⟨b,o+j*2+1,none⟩=some (.string (l.getD j default).2)
 | [],o,sz,l,h,hp=>by
  cases hp
  exact⟨rfl,fun j hj=>by cases hj⟩
 |r::rs,o,sz,l,h,hp=>by
  unfold GV at hp
  split at hp
  ·rename_i heq;cases heq
  ·rename_i a c rs' heq
   cases heq
   obtain⟨l',e1,rfl⟩:=Option.map_eq_some_iff.1 hp
   simp only[C5,Mc,E9]at h
   obtain⟨h0,⟨⟨u1,k1,_,rfl⟩,⟨u2,k2,_,rfl⟩,_⟩,h3⟩:=h
   have hs:sz=2:=by simpa using h0.symm
   subst hs
   obtain⟨g1,g2⟩:=iG h3 e1
   refine⟨by simp[g1],fun j hj=> ?_⟩
   cases j with
   |zero=>exact⟨by simpa using k1,by simpa using k2⟩
   |succ j=>
    have:=g2 j (by simpa using hj)
    rw[show o+(j+1)*2=o+2+j*2 by omega]
    simpa using this
  ·cases hp
theorem pJ {G:Gt} {P:Program} {f:FuncId} (hc:PH P f=true) (h:PR P f):PP G P f dX:=by
 intro args res hr
 unfold dX at hr
 split at hr
 ·rename_i rows p
  split at hr
  ·rename_i l hl
   split at hr
   ·rename_i hn
    cases hr
    refine⟨hc,fun w B L us ls hA hL hB hG=> ?_⟩
    simp only[B7,Ba]at hA
    obtain⟨u,us',S1,S2,l1,l2,rfl,⟨hs,_,e1,rfl⟩,⟨u',us'',S3,S4,l3,l4,rfl,⟨hp,_,e3,rfl⟩,⟨rfl,e4,rfl⟩,hsp',rfl⟩,hsp,rfl⟩:=hA
    simp only[E9]at hp
    subst hp
    have hL0:L=fun _=>False:=funext fun b=>propext ⟨fun hb=>by rcases(hsp.1 b).1 hb with h|h;exact e1 b h;rcases(hsp'.1 b).1 h with h|h;exact e3 b h;exact e4 b h,fun h=>h.elim⟩
    subst hL0
    simp only[E9]at hs
    obtain⟨q,cap,rfl,_,_,hrow⟩:=hs
    have hlen:l.length=rows.length∧Prs w.heap.size w (.slice q rows.length cap) rows.length (uu (fun j=>(l.getD j default).1) (fun j=>(l.getD j default).2)):=by
     rcases hrow with rfl|⟨b,o,sz,rfl,hBb,_,hrs⟩
     ·cases hl;exact⟨rfl, .inl ⟨rfl,q,cap,rfl⟩⟩
     ·obtain⟨g1,g2⟩:=iG hrs hl
      exact⟨g1, .inr ⟨b,o,cap,rfl,hB b hBb,fun j hj=>g2 j (by omega)⟩⟩
    obtain⟨g1,g2⟩:=hlen
    refine Calls.mono (h q rows.length cap _ _ p w (by omega) g2) ?_
    rintro e w' ⟨rfl,hb⟩
    rw[←g1,←rc]
    exact cE (vs:=[.string (BE l p).1, .bool (BE l p).2]) hB hb (fun v hv=>by
     simp only[List.mem_cons,List.not_mem_nil,or_false]at hv
     rcases hv with rfl|rfl<;>rfl)
   ·cases hr
  ·cases hr
 ·cases hr
end TT
namespace TT
open Go Go.RowKit
def Uj (own:List (ByteArray×ByteArray)) (pre uri:ByteArray):Bool:=(BE own pre).2&&decide ((BE own pre).1=uri)
def Xl : Rows→Option (List (ByteArray×ByteArray))
 | []=>some []
 | [.v (.string a), .v (.string _), .v (.string c), .v (.string _)]::rs=>(Xl rs).map ((a,c):: ·)
 |_=>none
def dY (own:List (ByteArray×ByteArray)) (x:ByteArray×ByteArray):Bool:=decide (x.1=⟨#[]⟩)||Uj own x.1 x.2
mutual
def RC : List T→List (ByteArray×ByteArray)→Option Bool
 | [.v (.int .i64 k), .v (.string p), .v (.string _), .v (.string u), .sl false ds, .sl false HD, .sl false ks, .v (.string _)],l=>
  match GV ds,Xl HD with
  |some d,some a=>if(l++d).length≤4000000 then
    match Uk ks (l++d)with
    |some b=>some (((decide (k≠1)||Uj (l++d) p u)&&a.all (dY (l++d)))&&b)
    |none=>none
   else none
  |_,_=>none
 |_,_=>none
def Uk : List (List T)→List (ByteArray×ByteArray)→Option Bool
 | [],_=>some true
 |r::rs,l=>match RC r l,Uk rs l with
  |some b,some c=>some (b&&c)
  |_,_=>none
end
def Xm : List M4→Option (List T)
 | []=>some []
 | .t c::ar=>(Xm ar).map (c:: ·)
 |_=>none
theorem A26 (ts:List T):Xm (ts.map .t)=some ts:=by
 induction ts with
 |nil=>rfl
 |cons t ts ih=>simp[Xm,ih]
def lh : cC
 | [.agg ar, .t (.sl false rows)]=>match Xm ar,GV rows with
  |some ts,some l=>(RC ts l).map fun b=>⟨[.t (.v (.bool b))],[]⟩
  |_,_=>none
 |_=>none
theorem A0j {w:World} {B:Nat→Prop}:∀{ar:List M4} {ts:List T} {us:List Value} {L:Nat→Prop} {ls:List Gw},Xm ar=some ts→B7 w B ar us L ls→GF w B ts us∧(∀b,¬L b)∧ls=[]
 | [],ts,us,L,ls,h,hA=>by
  cases h
  simp only[B7]at hA
  simp only[GF]
  exact hA
 | .t c::ar,ts,us,L,ls,h,hA=>by
  simp only[Xm]at h
  obtain⟨ts',h1,rfl⟩:=Option.map_eq_some_iff.1 h
  simp only[B7,Ba]at hA
  obtain⟨u,us',S1,S2,l1,l2,rfl,⟨g1,g2,g3,rfl⟩,hr,hs,rfl⟩:=hA
  obtain⟨k1,k2,rfl⟩:=A0j h1 hr
  simp only[GF]
  exact⟨⟨u,us',rfl,g1,g2,k1⟩,fun b hb=>((hs.1 b).1 hb).elim (g3 b) (k2 b),by simp⟩
 | .agg _::ar,ts,us,L,ls,h,hA=>by simp[Xm]at h
 | .ln _::ar,ts,us,L,ls,h,hA=>by simp[Xm]at h
 | .lp _ _::ar,ts,us,L,ls,h,hA=>by simp[Xm]at h
 | .pp _::ar,ts,us,L,ls,h,hA=>by simp[Xm]at h
 | .fn _ _::ar,ts,us,L,ls,h,hA=>by simp[Xm]at h
def A0k (P:Program) (f:FuncId):Prop:=∀(ts:List T) (l:List (ByteArray×ByteArray)) (b:Bool) (w:World) (B:Nat→Prop) (us:List Value) (rows:Rows) (u:Value),RC ts l=some b→(∀x,B x→x<w.heap.size)→GF w B ts us→GV rows=some l→E9 w B (.sl false rows) u→
 Calls P f #[.agg us.toArray,u] w fun e w'=>e= .returned (.bool b)∧Below w.heap.size w w'
theorem tT {G:Gt} {P:Program} {f:FuncId} (hc:PH P f=true) (h:A0k P f):PP G P f lh:=by
 intro args res hr
 unfold lh at hr
 split at hr
 ·rename_i ar rows
  split at hr
  ·rename_i ts l hts hl
   obtain⟨b,hb,rfl⟩:=Option.map_eq_some_iff.1 hr
   refine⟨hc,fun w B L us ls hA hL hB hG=> ?_⟩
   simp only[B7,Ba]at hA
   obtain⟨u,us',S1,S2,l1,l2,rfl,⟨cs,rfl,ha⟩,⟨u',us'',S3,S4,l3,l4,rfl,⟨hp,_,e3,rfl⟩,⟨rfl,e4,rfl⟩,hsp',rfl⟩,hsp,rfl⟩:=hA
   obtain⟨g1,g2,rfl⟩:=A0j hts ha
   have hL0:L=fun _=>False:=funext fun b=>propext ⟨fun hb=>by rcases(hsp.1 b).1 hb with h|h;exact g2 b h;rcases(hsp'.1 b).1 h with h|h;exact e3 b h;exact e4 b h,fun h=>h.elim⟩
   subst hL0
   refine Calls.mono (h ts l b w B cs.toList rows u' hb hB g1 hl hp) ?_
   rintro e w' ⟨rfl,hbw⟩
   exact cE (vs:=[.bool b]) hB hbw (fun v hv=>by
    simp only[List.mem_cons,List.not_mem_nil,or_false]at hv
    rw[hv];rfl)
  ·cases hr
 ·cases hr
end TT
namespace TT
open Go Go.RowKit
def cells2 : List (ByteArray×ByteArray)→List Value
 | []=>[]
 |x::l=> .string x.1:: .string x.2::cells2 l
theorem li (l:List (ByteArray×ByteArray)):(cells2 l).length=l.length*2:=by
 induction l with
 |nil=>rfl
 |cons x l ih=>simp only[cells2,List.length_cons,ih];omega
theorem zb (l m:List (ByteArray×ByteArray)):cells2 (l++m)=cells2 l++cells2 m:=by
 induction l with
 |nil=>rfl
 |cons x l ih=>simp only[List.cons_append,cells2,ih]
theorem lj (l:List (ByteArray×ByteArray)):∀u∈cells2 l,u.oneCell'=true:=by
 induction l with
 |nil=>intro u h;cases h
 |cons x l ih=>
  intro u h
  simp only[cells2,List.mem_cons]at h
  rcases h with rfl|rfl|h
  ·rfl
  ·rfl
  ·exact ih u h
theorem re : ∀ (l:List (ByteArray×ByteArray)) (j:Nat),j<l.length→(cells2 l)[j*2]? =some (.string (l.getD j default).1)∧(cells2 l)[j*2+1]? =some (.string (l.getD j default).2)
 |x::l,0,_=>⟨rfl,rfl⟩
 |x::l,j+1,h=>by
  have:=re l j (by simpa using h)
  rw[show(j+1)*2=j*2+1+1 by omega]
  simpa [cells2] using this
def PrL (n₀:Nat) (W:World) (sv:Value) (l:List (ByteArray×ByteArray)):Prop:=
 ∃q cap,sv= .slice q l.length cap∧(l.length=0∨∃b off,q=some ⟨b,off,none⟩∧b<n₀∧∀(j:Nat) v,(cells2 l)[j]? =some v→W.cell? ⟨b,off+j,none⟩=some v)
theorem PrL.below {n₀:Nat} {X Y:World} {sv:Value} {l:List (ByteArray×ByteArray)} (h:PrL n₀ X sv l) (hb:Below n₀ X Y):PrL n₀ Y sv l:=by
 obtain⟨q,cap,e,h⟩:=h
 exact⟨q,cap,e,h.imp id fun⟨b,off,e1,e2,e3⟩=>⟨b,off,e1,e2,fun j v hj=>(hb.cell (p:=⟨b,off+j,none⟩) e2).trans (e3 j v hj)⟩⟩
theorem PrL.up {n₀ n₁:Nat} {X:World} {sv:Value} {l:List (ByteArray×ByteArray)} (h:PrL n₀ X sv l) (hn:n₀≤n₁):PrL n₁ X sv l:=by
 obtain⟨q,cap,e,h⟩:=h
 exact⟨q,cap,e,h.imp id fun⟨b,off,e1,e2,e3⟩=>⟨b,off,e1,by omega,e3⟩⟩
theorem PrL.one {n₀:Nat} {X:World} {sv:Value} {l:List (ByteArray×ByteArray)} (h:PrL n₀ X sv l):sv.oneCell'=true:=by
 obtain⟨q,cap,rfl,_⟩:=h
 rfl
theorem PrL.prs {n₀:Nat} {X:World} {sv:Value} {l:List (ByteArray×ByteArray)} (h:PrL n₀ X sv l):Prs n₀ X sv l.length (uu (fun j=>(l.getD j default).1) (fun j=>(l.getD j default).2)):=by
 obtain⟨q,cap,rfl,h⟩:=h
 rcases h with h|⟨b,off,rfl,h2,h3⟩
 ·exact .inl ⟨h,q,cap,by rw[h]⟩
 ·refine .inr ⟨b,off,cap,rfl,h2,fun j hj=> ?_⟩
  obtain⟨e1,e2⟩:=re l j hj
  exact⟨h3 _ _ e1,by have:=h3 _ _ e2;rwa [←Nat.add_assoc]at this⟩
theorem C5.cells2 {w:World} {B:Nat→Prop} {b:Nat}:∀{rs:Rows} {o sz:Nat} {l:List (ByteArray×ByteArray)},C5 w B b o sz rs→GV rs=some l→l.length=rs.length∧∀(j:Nat) v,(TT.cells2 l)[j]? =some v→w.cell? ⟨b,o+j,none⟩=some v
 | [],o,sz,l,h,hp=>by
  cases hp
  exact⟨rfl,fun j v hj=>by simp[TT.cells2]at hj⟩
 |r::rs,o,sz,l,h,hp=>by
  unfold GV at hp
  split at hp
  ·rename_i heq;cases heq
  ·rename_i a c rs' heq
   cases heq
   obtain⟨l',e1,rfl⟩:=Option.map_eq_some_iff.1 hp
   simp only[C5,Mc,E9]at h
   obtain⟨h0,⟨⟨u1,k1,_,rfl⟩,⟨u2,k2,_,rfl⟩,_⟩,h3⟩:=h
   have hs:sz=2:=by simpa using h0.symm
   subst hs
   obtain⟨g1,g2⟩:=C5.cells2 h3 e1
   refine⟨by simp[g1],fun j v hj=> ?_⟩
   match j,hj with
   |0,hj=>simp only[TT.cells2]at hj;cases hj;exact k1
   |1,hj=>simp only[TT.cells2]at hj;cases hj;exact k2
   |j+2,hj=>
    have:=g2 j v (by simpa [TT.cells2] using hj)
    rw[show o+(j+2)=o+2+j by omega]
    exact this
  ·cases hp
theorem E9.prl {n₀:Nat} {w:World} {B:Nat→Prop} {rows:Rows} {u:Value} {l:List (ByteArray×ByteArray)} (h:E9 w B (.sl false rows) u) (hl:GV rows=some l) (hB:∀b,B b→b<n₀):PrL n₀ w u l:=by
 simp only[E9]at h
 obtain⟨q,cap,rfl,_,_,h4⟩:=h
 rcases h4 with rfl|⟨b,o,sz,rfl,h6,h7,h8⟩
 ·cases hl
  exact⟨q,cap,rfl, .inl rfl⟩
 ·obtain⟨g1,g2⟩:=C5.cells2 h8 hl
  exact⟨_,cap,by rw[g1], .inr ⟨b,o,rfl,hB b h6,g2⟩⟩
theorem Mc.vals {w:World} {B:Nat→Prop} {b:Nat}:∀{ts:List T} {o:Nat},Mc w B b o ts→∃us,GF w B ts us∧∀(i:Nat) x,us[i]? =some x→w.cell? ⟨b,o+i,none⟩=some x
 | [],o,h=>⟨[],by simp only[GF],fun i x hx=>by simp at hx⟩
 |t::ts,o,h=>by
  simp only[Mc]at h
  obtain⟨⟨u,h1,h2,h3⟩,h4⟩:=h
  obtain⟨us,g1,g2⟩:=Mc.vals h4
  refine⟨u::us,by simp only[GF];exact⟨u,us,rfl,h3,h2,g1⟩,fun i x hx=> ?_⟩
  cases i with
  |zero=>simp at hx;subst hx;exact h1
  |succ i=>have:=g2 i x (by simpa using hx);rwa [show o+1+i=o+(i+1) by omega]at this
theorem C5.elems {w:World} {B:Nat→Prop} {b:Nat}:∀{rs:Rows} {o sz:Nat},C5 w B b o sz rs→∀(j:Nat) r,rs[j]? =some r→∃us,us.length=sz∧GF w B r us∧∀(i:Nat) x,us[i]? =some x→w.cell? ⟨b,o+j*sz+i,none⟩=some x
 | [],o,sz,h,j,r,hj=>by simp at hj
 |r0::rs,o,sz,h,j,r,hj=>by
  simp only[C5]at h
  obtain⟨h0,h1,h2⟩:=h
  cases j with
  |zero=>
   simp at hj;subst hj
   obtain⟨us,g1,g2⟩:=Mc.vals h1
   exact⟨us,by rw[GF.length g1,h0],g1,fun i x hx=>by have:=g2 i x hx;simpa using this⟩
  |succ j=>
   obtain⟨us,g1,g2,g3⟩:=C5.elems h2 j r (by simpa using hj)
   refine⟨us,g1,g2,fun i x hx=> ?_⟩
   have:=g3 i x hx
   rwa [show o+sz+j*sz+i=o+(j+1)*sz+i by rw[Nat.succ_mul];omega]at this
theorem GF.same {w w':World} {B B':Nat→Prop} (hB:∀b,B b→B' b) (h:Fm B w w'):∀{ts:List T} {us:List Value},GF w B ts us→GF w' B' ts us
 | [],us,hh=>by simpa [GF] using hh
 |t::ts,us,hh=>by
  simp only[GF]at hh ⊢
  obtain⟨u,us',e,h1,h2,h3⟩:=hh
  exact⟨u,us',e,E9.same hB h h1,h2,GF.same hB h h3⟩
theorem lk {l:List (ByteArray×ByteArray)}:∀{rs:Rows} {b:Bool},Uk rs l=some b→(b=rs.all fun r=>(RC r l).getD false)∧∀r∈rs,∃c,RC r l=some c
 | [],b,h=>by
  simp only[Uk]at h
  cases h
  exact⟨rfl,fun r h=>by cases h⟩
 |r::rs,b,h=>by
  simp only[Uk]at h
  split at h
  ·rename_i b1 c1 e1 e2
   cases h
   obtain⟨g1,g2⟩:=lk e2
   refine⟨by simp[e1,g1],fun x hx=> ?_⟩
   rcases List.mem_cons.1 hx with rfl|hx
   ·exact⟨b1,e1⟩
   ·exact g2 x hx
  ·cases h
theorem fX {ts:List T} {l:List (ByteArray×ByteArray)} {b:Bool} (h:RC ts l=some b):∃k p x u ds HD ks t d a c,ts=[.v (.int .i64 k), .v (.string p), .v (.string x), .v (.string u), .sl false ds, .sl false HD, .sl false ks, .v (.string t)]∧
  GV ds=some d∧Xl HD=some a∧(l++d).length≤4000000∧Uk ks (l++d)=some c∧b=(((decide (k≠1)||Uj (l++d) p u)&&a.all (dY (l++d)))&&c):=by
 unfold RC at h
 split at h
 ·split at h
  ·rename_i h1 h2
   split at h
   ·rename_i hn
    split at h
    ·rename_i h3
     cases h
     exact⟨_,_,_,_,_,_,_,_,_,_,_,rfl,h1,h2,hn,h3,rfl⟩
    ·cases h
   ·cases h
  ·cases h
 ·cases h
theorem ll : ∀ {HD:Rows} {a:List (ByteArray×ByteArray)},Xl HD=some a→a.length=HD.length∧∀(j:Nat) r,HD[j]? =some r→∃x y z t,r=[.v (.string x), .v (.string y), .v (.string z), .v (.string t)]∧a[j]? =some (x,z)
 | [],a,h=>by cases h;exact⟨rfl,fun j r hj=>by simp at hj⟩
 |r0::HD,a,h=>by
  unfold Xl at h
  split at h
  ·rename_i heq;cases heq
  ·rename_i x y z t rs heq
   cases heq
   obtain⟨a',e1,rfl⟩:=Option.map_eq_some_iff.1 h
   obtain⟨g1,g2⟩:=ll e1
   refine⟨by simp[g1],fun j r hj=> ?_⟩
   cases j with
   |zero=>simp at hj;subst hj;exact⟨x,y,z,t,rfl,by simp⟩
   |succ j=>obtain⟨x,y,z,t,e,e'⟩:=g2 j r (by simpa using hj);exact⟨x,y,z,t,e,by simpa using e'⟩
  ·cases h
end TT
namespace TT
open Go Go.RowKit
def rf (s t u:ByteArray):ByteArray:=⟨(Lib.replaceAll s.data.toList t.data.toList u.data.toList).toArray⟩
def Vb : cC
 | [.t (.v (.string s)), .t (.v (.string t)), .t (.v (.string u))]=>if s.size<4294967281∧1≤t.size∧s.size+Lib.countB s t*u.size≤140737488355328 then some ⟨[.t (.v (.string (rf s t u)))],[]⟩else none
 |_=>none
theorem tU (s t u:ByteArray) {r:ByteArray} {e:ByteArray→Ay} (he:∀r,e r=⟨[.t (.v (.string r))],[]⟩) (hr:(if s.size<4294967281∧1≤t.size∧s.size+Lib.countB s t*u.size≤140737488355328 then some (rf s t u)else none)=some r):Vb [.t (.v (.string s)), .t (.v (.string t)), .t (.v (.string u))]=some (e r):=by
 split at hr
 ·rename_i h
  cases hr
  rw[he]
  simp only[Vb,if_pos h]
 ·cases hr
theorem ib {G:Gt} {P:Program} {f:FuncId} {g:Nat} (hG:∀B w,G.ok B w→∃m,w.cell? ⟨g,0,none⟩=some (.int .i64 m)) (hc:PH P f=true) (h:∀(s old new:ByteArray) (m:Int) (w:World),s.size<4294967281→w.cell? ⟨g,0,none⟩=some (.int .i64 m)→1≤old.size→s.size+Lib.countB s old*new.size≤140737488355328→
  Calls P f #[.string s, .string old, .string new] w fun e w'=>e= .returned (.string ⟨(Lib.replaceAll s.data.toList old.data.toList new.data.toList).toArray⟩)∧Below w.heap.size w w'):PP G P f Vb:=Hr hc fun args res hr=>by
 unfold Vb at hr
 split at hr
 ·rename_i s t u
  split at hr
  ·rename_i hs
   cases hr
   refine⟨[.string s, .string t, .string u],[.string (rf s t u)],rfl,rfl,fun v hv=> ?_,fun w B hg=> ?_⟩
   ·simp only[List.mem_cons,List.not_mem_nil,or_false]at hv
    subst hv;rfl
   ·obtain⟨m,hm⟩:=hG B w hg
    refine Calls.mono (h s t u m w hs.1 hm hs.2.1 hs.2.2) ?_
    rintro e w' ⟨rfl,hb⟩
    exact⟨rfl,hb⟩
  ·cases hr
 ·cases hr
end TT
