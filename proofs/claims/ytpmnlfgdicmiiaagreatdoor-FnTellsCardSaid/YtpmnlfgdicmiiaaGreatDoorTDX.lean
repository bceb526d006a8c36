import Derived.Test.YtpmnlfgdicmiiaaGreatDoorTD19
import Derived.Lib.ConvBytes
set_option linter.unusedVariables false
set_option linter.unusedSimpArgs false
set_option linter.unusedSectionVars false
namespace TT
open Go
section
variable {P:Program} {c:Ctx} {w w':World} {B:Nat→Prop} {ρ:Id→HG} {Sf:Id→Nat→Prop} {X:Nat→Prop} {r:R} {a:Act} {o:Oper}
theorem pr : ∀ {rows:Rows},X7 rows=true→∃xs:List Value,rows=xs.map fun x=>[T.v x]
 | [],_=>⟨[],rfl⟩
 | [.v x]::rs,h=>by
  simp only[X7]at h
  obtain⟨xs,rfl⟩:=pr h
  exact⟨x::xs,rfl⟩
 | []::_,h=>by simp[X7]at h
 |(.v x::_::_)::_,h=>by simp[X7]at h
 |(.sl _ _::_)::_,h=>by simp[X7]at h
 |(.hole::_)::_,h=>by simp[X7]at h
theorem kI {b sz:Nat}:∀{xs:List Value} {k:Nat},CK w B b k sz (xs.map fun x=>[T.v x])→(xs=[]∨sz=1)∧∀(j:Nat) x,xs[j]? =some x→w.cell? ⟨b,k+j,none⟩=some x∧x.oneCell'=true
 | [],k,_=>⟨.inl rfl,fun j x h=>by simp at h⟩
 |x::xs,k,h=>by
  simp only[List.map_cons,CK,Ml,EV]at h
  obtain⟨h1,⟨⟨u,h2,h3,rfl⟩,_⟩,h4⟩:=h
  have hs:sz=1:=by simpa using h1.symm
  subst hs
  obtain⟨_,g⟩:=kI h4
  refine⟨.inr rfl,fun j y hj=> ?_⟩
  cases j with
  |zero=>simp at hj;subst hj;exact⟨h2,h3⟩
  |succ j=>
   have:=g j y (by simpa using hj)
   rwa [show k+1+j=k+(j+1) by omega]at this
theorem zl {b:Nat}:∀{xs:List Value} {k:Nat},(∀(j:Nat) x,xs[j]? =some x→w.cell? ⟨b,k+j,none⟩=some x∧x.oneCell'=true)→CK w B b k 1 (xs.map fun x=>[T.v x])
 | [],k,_=>by simp[CK]
 |x::xs,k,h=>by
  simp only[List.map_cons,CK,Ml,EV]
  refine⟨rfl,⟨⟨x,by have:=(h 0 x (by simp)).1;simpa using this,(h 0 x (by simp)).2,rfl⟩,trivial⟩,zl fun j y hj=> ?_⟩
  have:=h (j+1) y (by simpa using hj)
  rwa [show k+1+j=k+(j+1) by omega]
theorem A2U (xs:List Value):Az (xs.map fun x=>[T.v x])=xs.map fun x=>[T.v x]:=by
 induction xs with
 |nil=>rfl
 |cons x xs ih=>simp[Az,HF,frz,ih]
theorem A69 {t ty e e':TypeId} {i:TypeInfo} (ht:P.underlying t=some (.slice e)) (hi:P.info? e=some i) (h1:i.size=1) {b cap n lo hi':Nat} {cur:Array Value} (hr:SW w b cur e') (hcur:cur.size=cap) (hn:n≤cap)
  {xs:List Value} (hxs:xs.length=n) (hc:∀(j:Nat) x,xs[j]? =some x→w.cell? ⟨b,j,none⟩=some x∧x.oneCell'=true) (hlt:hi'<lo) (hlo:lo≤n):
  ∃w',(Builtin.append_ #[t,t] ty #[.slice (some ⟨b,0,none⟩) hi' cap, .slice (if cap=lo then some ⟨b,0,none⟩else some ⟨b,lo,none⟩) (n-lo) (cap-lo)]).run P w= .ok (.slice (some ⟨b,0,none⟩) (hi'+(n-lo)) cap) w'∧
   (∀x,x≠b→w'.heap[x]? =w.heap[x]?)∧w'.heap.size=w.heap.size∧w'.os=w.os∧w'.tape=w.tape∧w'.output=w.output∧
   ∀(j:Nat) x,(xs.take hi'++xs.drop lo)[j]? =some x→w'.cell? ⟨b,j,none⟩=some x∧x.oneCell'=true:=by
 by_cases hm:n-lo=0
 ·rw[hm]
  refine⟨w,Ls ht hi (by omega),fun _ _=>rfl,rfl,rfl,rfl,rfl,fun j x hj=> ?_⟩
  have hd:xs.drop lo=[]:=List.drop_eq_nil_of_le (by omega)
  rw[hd,List.append_nil,List.getElem?_take]at hj
  split at hj
  ·exact hc j x hj
  ·cases hj
 ·rw[if_neg (by omega)]
  have hl:(xs.drop lo).length=(n-lo)*i.size:=by rw[List.length_drop,hxs,h1,Nat.mul_one]
  have hnews:∀(j:Nat) u,(xs.drop lo)[j]? =some u→w.cell? ((⟨b,lo,none⟩:Addr).add j)=some u:=fun j u hj=>by
   rw[List.getElem?_drop]at hj
   rw[DB]
   exact(hc _ _ hj).1
  have hone:∀u∈xs.drop lo,u.oneCell'=true:=fun u hu=>by
   obtain⟨j,hj⟩:=List.mem_iff_getElem?.1 (List.mem_of_mem_drop hu)
   exact(hc j u hj).2
  have hrun:=kB (P:=P) (ty:=ty) ht hi hr (a:=⟨b,lo,none⟩) (m:=n-lo) (c:=cap-lo) (sLen:=hi') (sCap:=cap) hl hnews hone (by omega) (by rw[hl,h1];omega)
  refine⟨_,hrun,fun x hx=>setRow_other w b x _ hx,by simp[World.setRow],rfl,rfl,rfl,fun j x hj=> ?_⟩
  have hR:=SW.setRow (new:=(cur.toList.take (hi'*i.size)++xs.drop lo++cur.toList.drop (hi'*i.size+(xs.drop lo).length)).toArray) hr (by
   simp only[List.size_toArray,List.length_append,List.length_take,List.length_drop,Array.length_toList]
   rw[h1];omega)
  rw[hR.cell]
  rw[h1,Nat.mul_one]
  have hjl:=(List.getElem?_eq_some_iff.1 hj).1
  rw[List.length_append,List.length_take,List.length_drop]at hjl
  simp only[List.getElem?_toArray]
  have hlt2:(cur.toList.take hi').length=hi':=by rw[List.length_take,Array.length_toList];omega
  have hxt:(xs.take hi').length=hi':=by rw[List.length_take];omega
  by_cases hj2:j<hi'
  ·rw[List.getElem?_append_left (by rw[hxt];exact hj2),List.getElem?_take,if_pos hj2]at hj
   have:=hc j x hj
   refine⟨?_,this.2⟩
   rw[hr.cell]at this
   rw[List.append_assoc,List.getElem?_append_left (by rw[hlt2];exact hj2),List.getElem?_take,if_pos hj2,Array.getElem?_toList]
   exact this.1
  ·rw[List.getElem?_append_right (by rw[hxt];omega),hxt]at hj
   refine⟨?_,hone x (List.mem_of_getElem? hj)⟩
   rw[List.append_assoc,List.getElem?_append_right (by rw[hlt2];omega),hlt2,List.getElem?_append_left (by rw[List.length_drop];omega)]
   exact hj
theorem A9Q (hI:E5 c w B ρ Sf (fun _=>False) r) {t e:TypeId} {i:TypeInfo} {s y:Operand} (h:o.op= .call { callee:= .builtin .append,args:= #[s,y],argTypes:= #[t,t] }) (ht:P.underlying t=some (.slice e)) (hi:P.info? e=some i) (h1:i.size=1)
  {id:Id} {n hi' lo:Nat} (hx:A6 w B ρ r (.vw id 0 hi' n) (a.eval s)) (hy:A6 w B ρ r (.vw id lo n n) (a.eval y)) (hlt:hi'<lo) (hlo:lo≤n) {rows:Rows} {stt:Nat} {fx:Bool} (he:Ac r id= .mem rows stt fx) (hl:rows.length=n) (hf:X7 rows=true):
  ∃w' u B' Sf',PY P o a w u w'∧E5 c w' B' ρ Sf' (fun _=>False) (C3 r id .dead)∧(∀v u,A6 w B ρ r v u→A6 w' B' ρ (C3 r id .dead) v u)∧A6 w' B' ρ (C3 r id .dead) (.t (.sl false (rows.take hi'++rows.drop lo))) u:=by
 simp only[A6]at hx hy
 obtain⟨_,q,cap,hu1,_,hh,hnc,href⟩:=hx
 obtain⟨_,q2,cap2,hu2,_,_,_,href2⟩:=hy
 have e1:=(href rows stt fx he).2 hl
 have e2:=(href2 rows stt fx he).2 hl
 injection e1 with e1 _ e1'
 injection e2 with e2 _ e2'
 subst e1 e1' e2 e2'
 obtain⟨xs,rfl⟩:=pr hf
 rw[List.length_map]at hl
 obtain⟨ho,_⟩:=hI.mem he
 obtain⟨g1,g2⟩:=hI.gone he (e:= .dead) rfl
 rcases ho with ⟨_,_,hnil,_⟩|⟨b,sz,e0,cur,S',hq,hrow,hlen,hcap,hsz,h0,hsp,hown⟩
 ·have:xs=[]:=List.map_eq_nil_iff.1 hnil
  subst this
  simp at hl;omega
 ·have hsh:=Cf.frz (B:=B) (B':=fun x=>B x∨Sf id x) (fun _ h=> .inl h) (fun x hx=> .inr (hsp.right hx)) hown
  rw[A2U]at hsh
  obtain⟨k1,k2⟩:=kI hsh
  have hs1:sz=1:=k1.resolve_left fun e=>by subst e;simp at hl;omega
  subst hs1
  have hSb:Sf id b:=hsp.left rfl
  obtain⟨w2,m1,m2,m3,m4,m5,m6,m7⟩:=A69 (P:=P) (ty:=o.type) ht hi h1 hrow (by omega) (by rw[List.length_map]at hlen;omega) hl (fun j x hj=>by have:=k2 j x hj;rwa [Nat.zero_add]at this) hlt hlo (cap:=(ρ id).2)
  have hyes:PY P o a w (.slice (some ⟨b,0,none⟩) (hi'+(n-lo)) (ρ id).2) w2:=by
   refine jc h ?_
   rw[hu1,hu2,hq]
   have ea:(if(ρ id).2=0 then(some ⟨b,0,none⟩:Option Addr)else(some ⟨b,0,none⟩:Option Addr).map (·.add 0))=some ⟨b,0,none⟩:=by split<;>simp[DB]
   have eb:(some ⟨b,0,none⟩:Option Addr).map (·.add lo)=some ⟨b,lo,none⟩:=by simp[DB]
   rw[ea,eb,Nat.sub_zero,Nat.sub_zero]
   exact m1
  have hB2:∀x,B x→w2.heap[x]? =w.heap[x]? :=fun x hx=>m2 x fun e=>hI.nb id b hSb (e▸hx)
  refine⟨w2,_,fun x=>B x∨Sf id x,_,hyes,g1.world (X':=fun _=>False) (fun x hx hX=>m2 x fun e=>hX (.inr (e▸hSb))) (by omega) m4 m5 m6 (fun _ h=> .inl h) (fun x h=>h.elim .inl fun h=> .inr (.inl (.inr h))) (fun x h=>by
    rw[m3]
    exact h.elim (hI.inB x) fun h=>(hI.ents id).inHeap x h) (fun _ h=>h.elim) (fun _ h=>h.elim) (fun _ h=>h.elim),fun v u hh=> ?_, ?_⟩
  ·refine EI (fun _ h=> .inl h) hB2 (fun j rows' stt' fx' hg=> ?_) (g2.claims v u hh)
   obtain⟨p1,_⟩:=g1.mem hg
   exact⟨_,p1,fun x hx=>m2 x fun e=>g1.xd j x (.inr (e▸hSb)) hx⟩
  ·have hll:(List.take hi' (xs.map fun x=>[T.v x])++List.drop lo (xs.map fun x=>[T.v x]))=(xs.take hi'++xs.drop lo).map fun x=>[T.v x]:=by rw[List.map_append,List.map_take,List.map_drop]
   have hlen2:(xs.take hi'++xs.drop lo).length=hi'+(n-lo):=by rw[List.length_append,List.length_take,List.length_drop];omega
   rw[hll]
   simp only[A6,EV]
   refine⟨⟨_,_,by rw[List.length_map,hlen2],by rw[List.length_map,hlen2];omega,hcap, .inr ⟨b,0,1,rfl, .inr hSb,Nat.one_pos,zl fun j x hj=> ?_⟩⟩,rfl⟩
   rw[Nat.zero_add]
   exact m7 j x hj
theorem A2V {d:Nat} {es:FA} (hd:d<r.length) (e:FA):C3 (r.set d [es]) (d,0) e=r.set d [e]:=by
 simp[C3,List.getD,hd]
theorem A9R (hI:E5 c w B ρ Sf (fun _=>False) r) {t t' e:TypeId} {y:Operand} {u0:TypeDesc} (h:o.op= .convert t t' y) (h1:P.underlying t=some u0) (g1:P.underlying t'=some (.slice e)) (g2:P.underlying e=some (.int .u8)) {st:ByteArray} (hu:a.eval y= .string st) (hsz:st.size≤maxLen) {d:Nat} (hd:d<r.length) (hr:r.getD d []=[]):
  ∃w' u ρ' Sf',PY P o a w u w'∧E5 c w' B ρ' Sf' (fun _=>False) (r.set d [tu st])∧(∀v u,A6 w B ρ r v u→A6 w' B ρ' (r.set d [tu st]) v u)∧A6 w' B ρ' (r.set d [tu st]) (.ref (d,0) st.size) u:=by
 have hrun2:=Lib.run_convert_string_bytes (P:=P) w t t' e st h1 g1 g2
 have hold:∀j,j<w.heap.size→(Lib.bytesWorld w e st).heap[j]? =w.heap[j]? :=fun j hj=>Lib.bytesWorld_at_old w e st j hj
 have hyes:PY P o a w _ _:=Dx (by unfold execOp;rw[h];simp only[hu]) hrun2
 have hge:=grownCap_ge w st.size 0 e
 have hcm:=grownCap_le_maxLen w _ 0 e hsz
 by_cases h0:st.size=0
 ·have hb:tu st= .dead:=if_pos h0
  obtain⟨ρ',Sf',k1,k2,k3⟩:=hI.root (w':=Lib.bytesWorld w e st) (rows:=[]) (q:=none) (cap:=0) (S':=fun _=>False) (fun b hb _=>hold b hb) (by rw[Lib.bytesWorld_size];omega) rfl rfl rfl hd hr (.inl ⟨rfl,rfl,rfl,fun _ h=>h⟩) (fun _ h=>h.elim)
  have he:Ac (r.set d [.mem [] 0 false]) (d,0)= .mem [] 0 false:=by simp[Ac,List.getD,hd]
  obtain⟨m1,m2⟩:=k1.gone he (e:= .dead) rfl
  rw[A2V hd]at m1 m2
  rw[hb]
  refine⟨_,_,ρ',_,hyes,m1.world (X':=fun _=>False) (fun _ _ _=>rfl) (Nat.le_refl _) rfl rfl rfl (fun _ h=>h) (fun _ h=> .inl h) m1.inB (fun _ h=>h.elim) (fun _ h=>h.elim) (fun _ h=>h.elim),fun v u hh=>m2.claims v u (k2 v u hh), ?_⟩
  simp only[A6]
  refine⟨by simp[Au,List.getD,hd],⟨_,_,rfl,hge,hcm⟩,fun rows stt fx hg=> ?_⟩
  rw[show Ac (r.set d [.dead]) (d,0)= .dead by simp[Ac,List.getD,hd]]at hg
  cases hg
 ·have hb:tu st= .mem (DZ st) 0 false:=if_neg h0
  have hl:(DZ st).length=st.size:=by simp[DZ]
  have hown:H1 (Lib.bytesWorld w e st) B (some ⟨w.heap.size,0,none⟩) (grownCap w st.size 0 e) (DZ st) (fun b=>b=w.heap.size):=by
   refine .inr ⟨w.heap.size,1,e,Lib.bytesCells w e st,fun _=>False,rfl,⟨_,Lib.bytesWorld_at_new w e st, .inr (Nat.le_refl _)⟩,⟨by rw[hl];exact hge,fun hn=>absurd (by rw[←hl,hn];rfl) h0⟩,hcm, ?_,Nat.one_pos,⟨fun b=>by simp,fun b _ h=>h⟩, ?_⟩
   ·have:st.data.size=st.size:=rfl
    simp only[Lib.bytesCells,Array.size_append,Array.size_map,Array.size_replicate]
    omega
   ·have hcells:∀(l:List UInt8) (o:Nat),(∀j,j<l.length→(Lib.bytesWorld w e st).cell? ⟨w.heap.size,o+j,none⟩=some (.int .u8 (l.getD j 0).toNat))→Cf (Lib.bytesWorld w e st) B w.heap.size o 1 (l.map fun b=>[.v (.int .u8 (b.toNat:Int))]) (fun _=>False):=by
     intro l
     induction l with
     |nil=>intro o _;simp only[List.map_nil,Cf];exact fun _ h=>h
     |cons x l ih=>
      intro o hc
      simp only[List.map_cons,Cf,Ng,Fb]
      refine⟨fun _=>False,fun _=>False,rfl,⟨_,fun _=>False,fun _=>False,by have:=hc 0 (by simp);simpa using this,rfl,⟨by simp,fun _ h=>h⟩,fun _ h=>h,⟨fun b=>by simp,fun b h _=>h⟩⟩,ih (o+1) fun j hj=> ?_,⟨fun b=>by simp,fun b h _=>h⟩⟩
      have:=hc (j+1) (by simpa using hj)
      rw[show o+1+j=o+(j+1) by omega,this]
      simp
    exact hcells st.data.toList 0 fun j hj=>by
     rw[Nat.zero_add]
     exact Lib.bytesWorld_cell w e st j (by simpa using hj)
  obtain⟨ρ',Sf',k1,k2,k3⟩:=hI.root (w':=Lib.bytesWorld w e st) (fun b hb _=>hold b hb) (by rw[Lib.bytesWorld_size];omega) rfl rfl rfl hd hr hown (fun b hb=> .inl (by omega))
  rw[hb]
  refine⟨_,_,ρ',_,hyes,k1,k2, ?_⟩
  have:=ZN (w':=Lib.bytesWorld w e st) (B':=B) (rows:=DZ st) hd hr k3 (by rw[hl];exact hge) hcm
  rwa [hl]at this
def Vs (s:ByteArray):List Value:=s.data.toList.map fun b=> .int .u8 (b.toNat:Int)
theorem A0Q (s:ByteArray):(Vs s).length=s.size:=by simp[Vs]
theorem pt (s:ByteArray):Array.map (fun b:UInt8=>Value.int IntKind.u8 (b.toNat:Int)) s.data=(Vs s).toArray:=by
 apply Array.ext'
 simp[Vs]
theorem A0R (s:ByteArray) (size:Nat):(Builtin.firstCells size s.size (.string s)).run P w= .ok (Vs s).toArray w:=by
 simp only[Builtin.firstCells]
 have e:(s.extract 0 s.size).data=s.data:=by
  rw[ByteArray.data_extract]
  exact Array.extract_size
 rw[e,pt]
 rfl
theorem A2W {t xt ty e:TypeId} {i:TypeInfo} {z:Value} (ht:P.underlying t=some (.slice e)) (hu:P.underlying xt=some .string) (hi:P.info? e=some i) (hz:i.zero=some z) (h1:i.size=1) (s:ByteArray):rD P w t xt ty e i z (.string s) s.size (Vs s):=by
 have hone:∀u∈Vs s,u.oneCell'=true:=fun u hu=>by
  simp only[Vs,List.mem_map]at hu
  obtain⟨b,_,rfl⟩:=hu
  rfl
 have hf:∀w:World,(Builtin.firstCells i.size s.size (.string s)).run P w= .ok (Vs s).toArray w:=fun w=>A0R s _
 constructor
 ·intro h0 q sLen sCap hle
  have hb:Vs s=[]:=List.eq_nil_of_length_eq_zero (by rw[A0Q,h0])
  have hf0:=hf w
  rw[hb,h0]at hf0
  cases q<;>simp[Builtin.append_,run_underlying ht,run_underlying hu,Go.sizeOf,typeInfo,hi,Builtin.lenOf,hle,h0,hf0,storeCells]
 ·intro h0 h63 h48
  have:=run_append_nil_string (P:=P) w t xt ty e i z ht hu hi hz s h0 h63 h48
  rw[this,pt]
 ·intro h0 e' g sLen sCap cur hg hroom hfit
  have hst:=Tk (P:=P) g (sLen*i.size) e' (Vs s) 0 cur w hg (by simpa using hfit) hone
  simp only[Nat.add_zero]at hst
  simp[Builtin.append_,run_underlying ht,run_underlying hu,Go.sizeOf,typeInfo,hi,Builtin.lenOf,hroom,hf,Addr.add_lit,hst]
 ·intro h0 b sLen sCap olds ho hol hg h63 hfit
  have hn:¬(sLen+s.size≤sCap):=by omega
  have h63':¬(9223372036854775807<((sLen:Int)+(s.size:Int))):=by omega
  have h48':¬(281474976710656<Builtin.nextslicecap (sLen+s.size) sCap*i.bytes):=by omega
  have hfo:=run_firstCells_some (P:=P) w.drew i.size sLen b sLen sCap olds ho (by simpa using hol)
  simp[Builtin.append_,run_underlying ht,run_underlying hu,Go.sizeOf,typeInfo,zeroValue,hi,hz,Builtin.lenOf,hn,h63',h48',Question.forced,hf,hfo,newRow,grownCap]
  congr 2
  apply Array.ext'
  simp[List.append_assoc]
theorem A0S (s:ByteArray):Al w B 1 (DZ s) (s.data.toList.map fun b=>[Value.int .u8 (b.toNat:Int)]) (fun _=>False):=by
 unfold DZ
 induction s.data.toList with
 |nil=>simp only[List.map_nil,Al];exact⟨trivial,fun _ h=>h⟩
 |cons x l ih=>
  simp only[List.map_cons,Al,CS,Fb]
  exact⟨_,_,fun _=>False,fun _=>False,rfl,rfl,⟨_,_,fun _=>False,fun _=>False,rfl,rfl,⟨rfl,fun _ h=>h⟩,⟨rfl,fun _ h=>h⟩,⟨fun b=>by simp,fun b h _=>h⟩⟩,ih,⟨fun b=>by simp,fun b h _=>h⟩⟩
theorem xK (s:ByteArray):(s.data.toList.map fun b=>[Value.int .u8 (b.toNat:Int)]).flatten=Vs s:=by
 unfold Vs
 induction s.data.toList with
 |nil=>rfl
 |cons x l ih=>simp[ih]
theorem A9S (hI:E5 c w B ρ Sf (fun _=>False) r) {t xt:TypeId} {s y:Operand} {byt:Nat} (h:o.op= .call { callee:= .builtin .append,args:= #[s,y],argTypes:= #[t,xt] }) (hb:uI P t 1 byt=true) (hxt:P.underlying xt=some .string)
  {id:Id} {n:Nat} (hva:A6 w B ρ r (.ref id n) (a.eval s)) {str:ByteArray} (hy:a.eval y= .string str) {rows:Rows} {st:Nat} {fx:Bool} (he:Ac r id= .mem rows st fx) (hl:rows.length=n) (hfit:(n+str.size)*byt≤LIM) (hb0:0<byt) (hra:(rows.all fun r=>r.length==1)=true):
  ∃w' u ρ' Sf',PY P o a w u w'∧E5 c w' B ρ' Sf' (fun _=>False) (C3 r id (.mem (rows++DZ str) st false))∧(∀v u,A6 w B ρ r v u→A6 w' B ρ' (C3 r id (.mem (rows++DZ str) st false)) v u)∧A6 w' B ρ' (C3 r id (.mem (rows++DZ str) st false)) (.ref id (n+str.size)) u:=by
 obtain⟨e,i,z,ht,hi,hz,hzs,hsz,hbyt,h0⟩:=Vq hb
 have hM:maxLen=9223372036854775807:=rfl
 have hLIM:LIM=140737488351232:=rfl
 have hmax:n+str.size≤maxLen:=by
  have:=Nat.le_mul_of_pos_right (n+str.size) hb0
  omega
 have hbl:(DZ str).length=str.size:=by simp[DZ]
 have hra':∀t∈rows,t.length=i.size:=by rw[hsz];simpa using hra
 simp only[A6]at hva
 obtain⟨hth,_,href⟩:=hva
 have hu:=(href rows st fx he).2 hl
 obtain⟨hm,_⟩:=hI.mem he
 have hR:=A2W (P:=P) (w:=w) (ty:=o.type) ht hxt hi hz hsz str
 rw[←hbl,←xK]at hR
 obtain⟨q',cap',w2,m1,m2⟩:=gR (P:=P) (ty:=o.type) ht hi hz hzs (by omega) hm hra' (by rw[hsz];exact A0S str) hR (fun _ _ h=>h) (fun b hb=>hI.nb id b hb) hI.inB (fun _ h=>h.elim) (by rw[hbyt,hl,hbl];exact hfit) (by rw[hl,hbl];exact hmax)
 obtain⟨S',n1,n2⟩:=m2.own
 have hq':∀id',id'≠id→uJ ρ id (q',cap') id'=ρ id':=fun id' h=>kC _ h
 have hqq:uJ ρ id (q',cap') id=(q',cap'):=pk _ _
 have hout:∀b,(ρ id).1=some ⟨b,0,none⟩→Sf id b:=by
  intro b hb
  rcases hm with ⟨e1,_⟩|⟨b',_,_,_,_,e1,_,_,_,_,_,e2,_⟩
  ·rw[e1]at hb;cases hb
  ·rw[e1]at hb
   simp only[oi,Addr.mk.injEq,and_true]at hb
   subst hb
   exact e2.left rfl
 obtain⟨Sf2,k1,k2⟩:=hI.turn (w':=w2) (ρ':=uJ ρ id (q',cap')) (rows':=rows++DZ str) (stt':=st) (fx':=false) he (fun b hb hX hS=>m2.heap b hb (fun e=>hS (hout b e))) m2.size m2.os m2.tape m2.output hq' (by rw[hqq];exact n1) (fun b hb=>by
   rcases n2 b hb with h|h|h
   ·exact .inr (.inr h)
   ·exact h.elim
   ·exact .inl h) (fun h=>by cases h)
  (fun hk hB v u hh=>gO (q':=q') (cap':=cap') he hq' (fun hnil=>by rw[hqq];obtain⟨e1,e2⟩:=m2.nil hnil;rw[e1,e2])
    (fun i' row' c' hrow hlt b hb=>by
      obtain⟨b',e1,e2⟩:=m2.cells b hb
      refine⟨b',by rw[hqq];exact e1,e2 _ ?_⟩
      have hrl:=hra' row' (List.mem_of_getElem? hrow)
      rw[hrl]at hlt ⊢
      have hil:=(List.getElem?_eq_some_iff.1 hrow).1
      calc i'*i.size+c'<i'*i.size+i.size:=by omega
       _=(i'+1)*i.size:=by rw[Nat.succ_mul]
       _≤rows.length*i.size:=Nat.mul_le_mul_right _ hil)
    (fun _ h=>h) hB hk
    (fun i' c' rows1 hg=>by
      obtain⟨b',k',cur,e',u',S1,S2,l1,l2,l3,l4,l5,l6,l7,_⟩:=H1.lens [] hm hg
      obtain⟨q1,cap1,hu1,hs1⟩:=FM.1 l5
      refine⟨q1,cap1,S1,b',k',l1,by rw[l2.cell _,l3,hu1],hs1,fun b hb=>m2.heap b (H1.inHeap hs1 b hb) (fun e=> ?_)⟩
      rw[l1.1]at e
      simp only[oi,Addr.mk.injEq,and_true]at e
      subst e
      exact l6.2 b' hb l7) hh)
 have hyes:PY P o a w (.slice q' (rows.length+(DZ str).length) cap') w2:=by
  unfold PY execOp
  rw[h]
  rw[hl]at m1
  simp[resolve,invoke,builtin,hu,hy,m1,hl]
 refine⟨w2,_,_,Sf2,hyes,k1,k2, ?_⟩
 simp only[A6]
 refine⟨(Hw _).2 hth,⟨q',cap',by rw[hl,hbl],by have:=m2.le;omega,n1.capLe⟩, ?_⟩
 intro rows' stt' fx' hg
 rw[AR hth]at hg
 simp only[FA.mem.injEq]at hg
 obtain⟨rfl,rfl,rfl⟩:=hg
 exact⟨by simp only[List.length_append];omega,fun _=>by rw[hqq,hl,hbl]⟩
def A2X (P:Program) (t:TypeId):Bool:=match P.underlying t with
 |some (.slice e)=>(match P.info? e with|some i=>i.size==1|none=>false)
 |_=>false
theorem pu {t:TypeId} (h:A2X P t=true):∃e i,P.underlying t=some (.slice e)∧P.info? e=some i∧i.size=1:=by
 unfold A2X at h
 split at h
 ·rename_i e hu
  split at h
  ·rename_i i hi
   exact⟨e,i,hu,hi,by simpa using h⟩
  ·cases h
 ·cases h
end
end TT
namespace TT
open Go
def A8n (P:Program) (t t':TypeId) (k:IntKind):Bool:=(P.underlying t).isSome&&(match P.underlying t' with|some (.int k')=>k==k'|_=>false)
def A8o (P:Program) (t:TypeId):Bool:=match P.underlying t with|some .bool=>true|_=>false
def eq (P:Program) (t:TypeId):Bool:=match P.underlying t with|some .string=>true|_=>false
def ifB (P:Program) (t:TypeId):Bool:=match P.underlying t with|some (.interface _)=>true|_=>false
def slB (P:Program) (t:TypeId):Bool:=match P.underlying t with|some (.slice _)=>true|_=>false
def A0T (P:Program) (t:TypeId):Bool:=match P.underlying t with
 |some (.slice e)=>(match P.underlying e with|some (.int .u8)=>(match P.info? e with|some i=>i.size==1|none=>false)|_=>false)
 |_=>false
def A2Y (P:Program) (t:TypeId) (sz:Nat):Bool:=match P.underlying t with
 |some .string=>sz==0
 |some (.slice e)=>sz != 0&&(match P.info? e with|some i=>i.size==sz|none=>false)
 |_=>false
def XA : Option D2→Option Operand→Bool
 |none,none=>true
 |some x,some y=>Hu x y
 |_,_=>false
def KK (P:Program):O→Callee→List Operand→List TypeId→Bool
 | .len true x, .builtin .len,[y],[t]=>eq P t&&Hu x y
 | .len false x, .builtin .len,[y],[t]=>slB P t&&Hu x y
 | .mm true x y, .builtin .max,[x',y'],_=>Hu x x'&&Hu y y'
 | .mm false x y, .builtin .min,[x',y'],_=>Hu x x'&&Hu y y'
 | .app sz byt s x, .builtin .append,[s',x'],[t,t']=>t==t'&&uI P t sz byt&&Hu s s'&&Hu x x'
 | .cut x y, .builtin .append,[s',x'],[t,t']=>t==t'&&A2X P t&&Hu x s'&&Hu y x'
 | .aps byt s x, .builtin .append,[s',x'],[t,t']=>uI P t 1 byt&&eq P t'&&Hu s s'&&Hu x x'
 | .call f _ _ as, .value (.func g),as',_=>f==g&&jy as as'
 | .callv x _ _ as, .value y,as',_=>Hu x y&&jy as as'
 |_,_,_,_=>false
def CL (P:Program):O→Op→Bool
 | .mv x, .move y=>Hu x y
 | .mv x, .assign y=>Hu x y
 | .pick c a b, .pick c' a' b'=>Hu c c'&&Hu a a'&&Hu b b'
 | .alloc z, .alloc t=>kA P t z
 | .box x, .box _ y=>Hu x y
 | .vbox x, .box _ y=>Hu x y
 | .bsl sz ps, .buildSlice t n qs=>xD P t n sz&&cX ps qs.toList n
 | .bslz sz ps, .buildSlice t n qs=>xD P t n sz&&cX ps qs.toList n
 | .ld n ag x, .load t y=>ldB P t n ag&&decide (0<n)&&Hu x y
 | .st n x y, .store t x' y'=>stB P t n&&Hu x x'&&Hu y y'
 | .nilc x, .nilCheck y=>Hu x y
 | .bin op x y, .binOp op' _ x' y' _=>op==op'&&Hu x x'&&Hu y y'
 | .beq ne x y, .binOp op t x' y' _=>(if ne then op== .neq else op== .eql)&&A8o P t&&Hu x x'&&Hu y y'
 | .eqn ne x, .binOp op t x' (.const (.slice none 0 0)) _=>(if ne then op== .neq else op== .eql)&&slB P t&&Hu x x'
 | .eqi ne x, .binOp op t x' (.const .nilIface) _=>(if ne then op== .neq else op== .eql)&&ifB P t&&Hu x x'
 | .eqs ne ks x y, .binOp op t x' y' _=>(if ne then op== .neq else op== .eql)&&A9D P t ks&&Hu x x'&&Hu y y'
 | .un op x, .unOp op' _ y=>op==op'&&Hu x y
 | .conv (.int k) x, .convert t t' y=>A8n P t t' k&&Hu x y
 | .conv .rune x, .convert t t' y=>(P.underlying t).isSome&&eq P t'&&Hu x y
 | .conv .same x, .convert t t' y=>(P.underlying t).isSome&&eq P t'&&Hu x y
 | .conv .bytes x, .convert t t' y=>(P.underlying t).isSome&&A0T P t'&&Hu x y
 | .conv .str x, .convert t t' y=>A0T P t&&eq P t'&&Hu x y
 | .build z ps, .build t qs=>kA P t (z.map A67)&&rH P t&&kH P t ps qs.toList
 | .slc sz x lo hi, .slice t y lo' hi' none=>A2Y P t sz&&Hu x y&&XA lo lo'&&XA hi hi'
 | .vws x lo hi, .slice t y lo' hi' none=>A2X P t&&Hu x y&&XA lo lo'&&XA hi hi'
 | .cvo x, .convert t t' y=>(P.underlying t).isSome&&A0T P t'&&Hu x y
 | .fld off n ag x, .field t y f=>A9N P t f off n ag&&Hu x y
 | .ix x i, .index t x' i'=>eq P t&&Hu x x'&&Hu i i'
 | .ixa sz len ag x i, .index t x' i'=>A9P P t sz len ag&&decide (0<sz)&&Hu x x'&&Hu i i'
 | .mks z byt (.s t0), .makeSlice t (.tmp t1) (.tmp t2)=>A9I P t z byt&&t0==t1&&t1==t2
 | .fa off x, .fieldAddr t y f=>faB P t f off&&Hu x y
 | .fa off x, .indexAddr t y (.const (.int _ n))=>aaB P t n off&&Hu x y
 | .ia sz x i, .indexAddr t x' i'=>iaB P t sz&&Hu x x'&&Hu i i'
 | .ext x i, .extract y j=>i==j&&Hu x y
 | .mkf f caps, .makeFunc (.func g) first ys=>f==g&&first.isEmpty&&jy caps ys.toList
 |x, .call c=>KK P x c.callee c.args.toList c.argTypes.toList
 |_,_=>false
def agG (ops:Array Oper):Option (Nat×Bool)→Option (Nat×Bool)→Bool
 |none,none=>true
 |some (t,w),some (j,w')=>w==w'&&(match (ops[j]?).bind (·.dst)with|some t'=>t==t'|none=>false)
 |_,_=>false
def uR : O→Bool
 | .ext (.c (.bool _)) _=>true
 |_=>false
theorem A2Z {x:O} (h:uR x=true):∃v i,x= .ext (.c (.bool v)) i:=by
 unfold uR at h
 split at h
 ·exact⟨_,_,rfl⟩
 ·cases h
def kJ : O→O
 | .ldr x=> .ld 1 false x
 | .appn _ sz byt s x=> .app sz byt s x
 |x=>x
theorem A0U {call:Ai} {s:List V} {d:Nat} {x:O} {r:R} {out:V×R} (h:(BL s d x).run call d r=some out):(BL s d (kJ x)).run call d r=some out:=by
 cases x<;>try exact h
 case ldr x=>
  simp only[BL]at h
  simp only[kJ,BL]
  split at h
  ·rename_i id p i off m st he
   split at h
   ·rw[he]
    simp only[M.run]at h ⊢
    cases hg:Ac r id with
    |dead=>rw[hg]at h;simp[M.run]at h
    |mem rows stt fx=>
     rw[hg]at h
     simp only at h ⊢
     cases hr:Dw rows stt p i m st with
     |none=>rw[hr]at h;simp[M.run]at h
     |some row=>
      rw[hr]at h
      simp only at h ⊢
      cases ht:row[off]? with
      |none=>rw[ht]at h;simp[M.run]at h
      |some t=>
       rw[ht]at h
       simp only[M.run,oi]at h
       have hlt:=(List.getElem?_eq_some_iff.1 ht).1
       rw[if_pos (by omega)]
       have e:(row.drop off).take 1=[t]:=by
        rw[List.drop_eq_getElem_cons hlt,List.take_succ_cons,List.take_zero]
        rw[(List.getElem?_eq_some_iff.1 ht).2]
       simp only[e,Pb,bf,if_false,M.run,h]
   ·simp[M.run]at h
  ·simp[M.run]at h
 case appn q sz byt a x=>
  simp only[BL]at h
  simp only[kJ,BL]
  split at h
  ·rename_i id p i c n st id2 n2 h1 h2
   split at h
   ·rw[h1,h2];exact h
   ·simp[M.run]at h
  ·simp[M.run]at h
def agX (P:Program) (x:O) (o:Op):Bool:=uR x||CL P (kJ x) o
def agE (P:Program) (ops:Array Oper) (e:FD) (o:Oper):Bool:=e.d==o.dst&&agG ops e.g o.guard&&agX P e.o o.op
theorem RM {α:Type} {call:Ai} {d:Nat} {rd wr:List Nat}:∀{m:M α} {r:R} {x:α×R},m.runA call d rd wr r=some x→m.run call d r=some x
 | .ret v,r,x,h=>h
 | .fail,r,x,h=>by simp[M.runA]at h
 | .get id k,r,x,h=>by
  simp only[M.runA]at h
  split at h
  ·simp only[M.run];exact RM h
  ·cases h
 | .set id e m,r,x,h=>by
  simp only[M.runA]at h
  split at h
  ·simp only[M.run];exact RM h
  ·cases h
 | .new es m,r,x,h=>by
  simp only[M.runA]at h
  split at h
  ·rename_i hc
   simp only[bz]at hc
   simp only[M.run]
   rw[if_pos (by simp only[bz];exact hc.2)]
   exact RM h
  ·cases h
 | .call f args k,r,x,h=>by
  simp only[M.runA]at h
  simp only[M.run]
  obtain⟨res,h1,h2⟩:=Option.bind_eq_some_iff.1 h
  exact Option.bind_eq_some_iff.2 ⟨res,h1,RM h2⟩
theorem ABK {α:Type} {a:Array α} {x:α} (h:a.toList=[x]):a= #[x]:=Array.ext' (by simpa using h)
theorem xL {α:Type} {a:Array α} {x y:α} (h:a.toList=[x,y]):a= #[x,y]:=Array.ext' (by simpa using h)
section
variable {P:Program} {c:Ctx} {w w':World} {B B' B2:Nat→Prop} {ρ ρ':Id→HG} {Sf:Id→Nat→Prop} {X:Nat→Prop} {r r' r0:R} {a:Act} {o:Oper} {id0:Id}
def Lb (P:Program) (c:Ctx) (o:Oper) (a:Act) (w:World) (B:Nat→Prop) (ρ:Id→HG) (r:R) (x:V×R):Prop:=
 let after:Value→World→Prop:=fun u w'=>∃B' ρ' Sf',E5 c w' B' ρ' Sf' (fun _=>False) x.2∧x.2.length=r.length∧(∀v u,A6 w B ρ r v u→A6 w' B' ρ' x.2 v u)∧A6 w' B' ρ' x.2 x.1 u
 (∃u w',PY P o a w u w'∧after u w')∨(∃w',PZ P o a w w'∧after undef w')∨
 (∃f us,(execOp a.eval o).run P w= .ok (.enter f us) w∧Calls P f us w fun| .returned v,w'=>after v w'|_,_=>False)
theorem Ad (hI:E5 c w B ρ Sf (fun _=>False) r) {v:V} {u:Value} (hy:PY P o a w u w) (hv:A6 w B ρ r v u):Lb P c o a w B ρ r (v,r):=
 .inl ⟨u,w,hy,B,ρ,Sf,hI,rfl,fun _ _ h=>h,hv⟩
theorem kK {f:FuncId} {cs:Array Value} {as:Array Operand} {y:Operand} {ats:Array TypeId} (h:o.op= .call { callee:= .value y,args:=as,argTypes:=ats }) (hy:a.eval y= .func (.func f) #[] cs) (hb:NN P f=true):
  (execOp a.eval o).run P w= .ok (.enter f (as.map a.eval++cs)) w:=by
 unfold NN at hb
 cases hf:P.funcs[f]? with
 |none=>rw[hf]at hb;cases hb
 |some fn=>
  rw[hf]at hb
  simp only[bz,bne_iff_ne,ne_eq,Option.isSome_iff_exists]at hb
  obtain⟨h1,body,h2⟩:=hb
  unfold execOp
  rw[h]
  simp[resolve,Deferred.ofValue,hy,invoke,callFunc,hf,h1,h2]
theorem xM {sz byt:Nat} {s x:D2} {ce:Callee} {as:List Operand} {ts:List TypeId} (h:KK P (.app sz byt s x) ce as ts=true):∃s' x' t,ce= .builtin .append∧as=[s',x']∧ts=[t,t]∧uI P t sz byt=true∧Hu s s'=true∧Hu x x'=true:=by
 unfold KK at h
 split at h<;>first|(exact absurd h Bool.false_ne_true)|(rename_i e1;cases e1)
 ·simp only[bz,beq_iff_eq]at h
  obtain⟨⟨⟨rfl,h1⟩,h2⟩,h3⟩:=h
  exact⟨_,_,_,rfl,rfl,rfl,h1,h2,h3⟩
theorem xO {x y:D2} {ce:Callee} {as:List Operand} {ts:List TypeId} (h:KK P (.cut x y) ce as ts=true):∃s' x' t,ce= .builtin .append∧as=[s',x']∧ts=[t,t]∧A2X P t=true∧Hu x s'=true∧Hu y x'=true:=by
 unfold KK at h
 split at h<;>first|(exact absurd h Bool.false_ne_true)|(rename_i e1;cases e1)
 ·simp only[bz,beq_iff_eq]at h
  obtain⟨⟨⟨rfl,h1⟩,h2⟩,h3⟩:=h
  exact⟨_,_,_,rfl,rfl,rfl,h1,h2,h3⟩
theorem xP {byt:Nat} {x y:D2} {ce:Callee} {as:List Operand} {ts:List TypeId} (h:KK P (.aps byt x y) ce as ts=true):∃s' x' t t',ce= .builtin .append∧as=[s',x']∧ts=[t,t']∧uI P t 1 byt=true∧eq P t'=true∧Hu x s'=true∧Hu y x'=true:=by
 unfold KK at h
 split at h<;>first|(exact absurd h Bool.false_ne_true)|(rename_i e1;cases e1)
 ·simp only[bz]at h
  obtain⟨⟨⟨h0,h1⟩,h2⟩,h3⟩:=h
  exact⟨_,_,_,_,rfl,rfl,rfl,h0,h1,h2,h3⟩
theorem uS {f:FuncId} {md:List Md} {own:List Bool} {xs:List D2} {ce:Callee} {as:List Operand} {ts:List TypeId} (h:KK P (.call f md own xs) ce as ts=true):ce= .value (.func f)∧jy xs as=true:=by
 unfold KK at h
 split at h<;>first|(exact absurd h Bool.false_ne_true)|(rename_i e1;cases e1)
 ·simp only[bz,beq_iff_eq]at h
  obtain⟨rfl,h2⟩:=h
  exact⟨rfl,h2⟩
theorem rM {x:D2} {md:List Md} {own:List Bool} {xs:List D2} {ce:Callee} {as:List Operand} {ts:List TypeId} (h:KK P (.callv x md own xs) ce as ts=true):∃y,ce= .value y∧Hu x y=true∧jy xs as=true:=by
 unfold KK at h
 split at h<;>first|(exact absurd h Bool.false_ne_true)|(rename_i e1;cases e1)
 ·simp only[bz]at h
  exact⟨_,rfl,h.1,h.2⟩
theorem xQ {str:Bool} {x:D2} {ce:Callee} {as:List Operand} {ts:List TypeId} (h:KK P (.len str x) ce as ts=true):∃y t,ce= .builtin .len∧as=[y]∧ts=[t]∧(if str then eq P t else slB P t)=true∧Hu x y=true:=by
 unfold KK at h
 split at h<;>first|(exact absurd h Bool.false_ne_true)|(rename_i e1;cases e1)
 ·simp only[bz]at h
  exact⟨_,_,rfl,rfl,rfl,h.1,h.2⟩
 ·simp only[bz]at h
  exact⟨_,_,rfl,rfl,rfl,h.1,h.2⟩
theorem A0V {mx:Bool} {x y:D2} {ce:Callee} {as:List Operand} {ts:List TypeId} (h:KK P (.mm mx x y) ce as ts=true):∃x' y',ce= .builtin (if mx then .max else .min)∧as=[x',y']∧Hu x x'=true∧Hu y y'=true:=by
 unfold KK at h
 split at h<;>first|(exact absurd h Bool.false_ne_true)|(rename_i e1;cases e1)
 ·simp only[bz]at h
  exact⟨_,_,rfl,rfl,h.1,h.2⟩
 ·simp only[bz]at h
  exact⟨_,_,rfl,rfl,h.1,h.2⟩
theorem pv {f:FuncId} {us:Array Value} {out:V×R} (h1:(execOp a.eval o).run P w= .ok (.enter f us) w) (h2:Calls P f us w (uN c w B ρ r out)):Lb P c o a w B ρ r out:=by
 refine .inr (.inr ⟨f,us,h1,Calls.mono h2 fun e w' hp=> ?_⟩)
 cases e with
 |returned v=>
  obtain⟨B',ρ',Sf',g1,g2,g3,g4⟩:=hp
  exact⟨B',ρ',Sf',g1,g2,g3,g4⟩
 |panicked ch=>exact hp
 |outgrown=>exact hp
theorem xR {call:Ai} (hS:EY c.G P call) {x:O} {cl:Call} (hop:o.op= .call cl) (hag:KK P x cl.callee cl.args.toList cl.argTypes.toList=true) {s:List V} {d:Nat} {out:V×R} (hrun:(BL s d x).run call d r=some out) (hI:E5 c w B ρ Sf (fun _=>False) r) (hs:FO w B ρ r s a):
  Lb P c o a w B ρ r out:=by
 obtain⟨ce,as,ats⟩:=cl
 simp only at hag
 cases x<;>try (simp only[KK]at hag;cases hag;done)
 case app sz byt sx x=>
  obtain⟨s',x',t,rfl,e1,e2,h1,h2,h3⟩:=xM hag
  rw[xL e1,xL e2]at hop
  simp only[BL]at hrun
  obtain⟨w',u,ρ',Sf',g1,g2,g3,g4,g5⟩:=A9L hI hop h1 (hs.eval h2) (hs.eval h3) hrun
  exact .inl ⟨u,w',g1,B,ρ',Sf',g2,g3,g4,g5⟩
 case cut x y=>
  obtain⟨s',x',t,rfl,e1,e2,h1,h2,h3⟩:=xO hag
  rw[xL e1,xL e2]at hop
  obtain⟨e,i,ht,hi,hs1⟩:=pu h1
  have hx:=hs.eval h2
  have hy:=hs.eval h3
  simp only[BL]at hrun
  split at hrun
  ·rename_i id l1 hh1 n id2 l2 hh2 n2 ex ey
   rw[ex]at hx
   rw[ey]at hy
   split at hrun
   ·rename_i hc
    obtain⟨⟨rfl,rfl⟩,rfl,hlt,hlo,rfl⟩:=hc
    simp only[M.run]at hrun
    split at hrun
    ·rename_i rows st fx he
     split at hrun
     ·rename_i hl
      simp only[M.run,oi]at hrun
      subst hrun
      obtain⟨w',u,B',Sf',g1,g2,g3,g4⟩:=A9Q hI hop ht hi hs1 hx hy hlt hlo he hl.1 hl.2
      exact .inl ⟨u,w',g1,B',ρ,Sf',g2,by rw[Bu],g3,g4⟩
     ·simp[M.run]at hrun
    ·simp[M.run]at hrun
   ·simp[M.run]at hrun
  ·simp[M.run]at hrun
 case aps byt x y=>
  obtain⟨s',x',t,t',rfl,e1,e2,h0,h1,h2,h3⟩:=xP hag
  rw[xL e1,xL e2]at hop
  have hxt:P.underlying t'=some .string:=by
   unfold eq at h1
   split at h1
   ·assumption
   ·cases h1
  have hx:=hs.eval h2
  have hy:=hs.eval h3
  simp only[BL]at hrun
  split at hrun
  ·rename_i str ey
   rw[ey]at hy
   split at hrun
   ·rename_i id n ex
    rw[ex]at hx
    simp only[M.run]at hrun
    split at hrun
    ·rename_i rows st fx he
     split at hrun
     ·rename_i hc
      simp only[M.run,oi]at hrun
      subst hrun
      obtain⟨w',u,ρ',Sf',g1,g2,g3,g4⟩:=A9S hI hop h0 hxt hx (Df hy).1 he hc.1 hc.2.1 hc.2.2.1 hc.2.2.2
      exact .inl ⟨u,w',g1,B,ρ',Sf',g2,by rw[Bu],g3,g4⟩
     ·simp[M.run]at hrun
    ·simp[M.run]at hrun
   ·simp[M.run]at hrun
  ·simp[M.run]at hrun
 case call f md own xs=>
  obtain⟨rfl,h1⟩:=uS hag
  simp only[BL]at hrun
  obtain⟨g1,g2⟩:=zj hS hI (hs.evals h1) hrun
  have he:=kK (P:=P) (w:=w) (a:=a) (cs:= #[]) hop rfl g1
  refine pv he ?_
  have:(as.map a.eval++ #[])=(as.toList.map a.eval).toArray:=by apply Array.ext';simp
  rw[this];exact g2
 case callv x md own xs=>
  obtain⟨y,rfl,h1,h2⟩:=rM hag
  have hx:=hs.eval h1
  simp only[BL]at hrun
  split at hrun
  ·rename_i f caps he
   rw[he]at hx
   simp only[A6]at hx
   obtain⟨cs,e1,e2⟩:=hx
   obtain⟨g1,g2⟩:=zj hS hI ((hs.evals h2).append e2) hrun
   have he:=kK (P:=P) (w:=w) (a:=a) hop e1 g1
   refine pv he ?_
   have:(as.map a.eval++cs)=(as.toList.map a.eval++cs.toList).toArray:=by apply Array.ext';simp
   rw[this];exact g2
  ·simp[M.run]at hrun
 case len str x=>
  obtain⟨y,t,rfl,e1,e2,h1,h2⟩:=xQ hag
  rw[ABK e1,ABK e2]at hop
  have hx:=hs.eval h2
  simp only[BL]at hrun
  have hsl:str=false→∃e,P.underlying t=some (.slice e):=fun e=>by
   rw[e]at h1
   simp only[bf,if_false,slB]at h1
   split at h1
   ·rename_i e' he';exact⟨e',he'⟩
   ·cases h1
  split at hrun
  ·rename_i st he
   rw[he]at hx
   simp only[M.run,oi]at hrun
   subst hrun
   have ht:P.underlying t=some .string:=by
    simp only[if_true,eq]at h1
    split at h1
    ·assumption
    ·cases h1
   exact Ad hI (u9 (ats:= #[]) hop ht (Df hx).1) (Lr rfl)
  ·rename_i ow rows he
   rw[he]at hx
   simp only[M.run,oi]at hrun
   subst hrun
   obtain⟨e',ht⟩:=hsl rfl
   simp only[A6]at hx
   cases ow with
   |true=>have:=hx.1;simp only[EV]at this
   |false=>
    have:=hx.1
    simp only[EV]at this
    obtain⟨q,cap,e3,_⟩:=this
    exact Ad hI (WV hop ht e3) (Lr rfl)
  ·rename_i he
   rw[he]at hx
   simp only[M.run,oi]at hrun
   subst hrun
   obtain⟨e',ht⟩:=hsl rfl
   simp only[A6]at hx
   exact Ad hI (WV hop ht hx) (Lr rfl)
  ·rename_i id n he
   rw[he]at hx
   simp only[M.run,oi]at hrun
   subst hrun
   obtain⟨e',ht⟩:=hsl rfl
   simp only[A6]at hx
   obtain⟨_,⟨q,cap,e3,_⟩,_⟩:=hx
   exact Ad hI (WV hop ht e3) (Lr rfl)
  ·rename_i he
   rw[he]at hx
   simp only[M.run,oi]at hrun
   subst hrun
   obtain⟨e',ht⟩:=hsl rfl
   simp only[A6]at hx
   obtain⟨_,⟨q,cap,e3,_⟩,_⟩:=hx
   exact Ad hI (WV hop ht e3) (Lr rfl)
  ·simp[M.run]at hrun
 case mm mx x y=>
  obtain⟨x',y',rfl,e1,h1,h2⟩:=A0V hag
  rw[xL e1]at hop
  have hx:=hs.eval h1
  have hy:=hs.eval h2
  simp only[BL]at hrun
  split at hrun
  ·rename_i k n k' m ha hb
   rw[ha]at hx
   rw[hb]at hy
   simp only[M.run,oi]at hrun
   subst hrun
   exact Ad hI (A9C hop (Df hx).1 (Df hy).1) (Lr rfl)
  ·simp[M.run]at hrun
theorem cj (d:Nat) (t:TypeId) {ms} (h:P.underlying t=some (.interface ms)):(Op.equalIn (d+1) t .nilIface .nilIface).run P w= .ok true w:=by
 simp[Op.equalIn,run_underlying h]
theorem A6A {op:BinOp} {t ty:TypeId} {x:Operand} (h:o.op= .binOp op t x (.const .nilIface) ty) (ho:op= .eql∨op= .neq) {ms} (ht:P.underlying t=some (.interface ms)) (hx:a.eval x= .nilIface):PY P o a w (.bool (if op= .neq then false else true)) w:=by
 have hc:a.eval (.const .nilIface)= .nilIface:=rfl
 refine Dx (s:=do eqGuard op t x (.const .nilIface) .nilIface .nilIface;binOp op t .nilIface .nilIface) (by unfold execOp;rw[h];simp only[hx,hc]) ?_
 have hg:(eqGuard op t x (.const .nilIface) .nilIface .nilIface).run P w= .ok () w:=by
  rcases ho with rfl|rfl<;>simp[eqGuard]
 rw[Sem.run_bind,hg]
 simp only[Result.andThen_ok]
 rcases ho with rfl|rfl
 ·simp only[binOp]
  simp[Op.equal,Op.maxDepth,cj 9999 t ht]
 ·simp only[binOp]
  simp[Op.equal,Op.maxDepth,cj 9999 t ht]
theorem uT {call:Ai} (hS:EY c.G P call) {x:O} {op':BinOp} {t:TypeId} {x' y':Operand} {ty:TypeId} (hop:o.op= .binOp op' t x' y' ty) (hag:CL P x (.binOp op' t x' y' ty)=true) {s:List V} {d:Nat} {out:V×R} (hrun:(BL s d x).run call d r=some out) (hI:E5 c w B ρ Sf (fun _=>False) r) (hs:FO w B ρ r s a):
  Lb P c o a w B ρ r out:=by
 cases x<;>first|(exact absurd hag Bool.false_ne_true)|(simp only[CL]at hag;cases hag;done)|skip
 case bin op x y=>
  simp only[CL,bz,beq_iff_eq]at hag
  obtain⟨⟨rfl,h2⟩,h3⟩:=hag
  have hx:=hs.eval h2
  have hy:=hs.eval h3
  simp only[BL]at hrun
  split at hrun
  ·rename_i va vb ha hb
   rw[ha]at hx
   rw[hb]at hy
   split at hrun
   ·rename_i u hu
    simp only[M.run,oi]at hrun
    subst hrun
    rw[←(Df hx).1,←(Df hy).1]at hu
    exact Ad hI (A5z hop hu) (Lr (zb (P:=P) (w:=w) (t:=t) hu x' y').2)
   ·simp[M.run]at hrun
  ·simp[M.run]at hrun
 case beq ne x y=>
  simp only[CL,bz]at hag
  obtain⟨⟨⟨h0,h1⟩,h2⟩,h3⟩:=hag
  have hx:=hs.eval h2
  have hy:=hs.eval h3
  have ht:P.underlying t=some .bool:=by
   unfold A8o at h1
   split at h1
   ·assumption
   ·cases h1
  have ho:op'=if ne then .neq else .eql:=by cases ne<;>simpa using h0
  simp only[BL]at hrun
  split at hrun
  ·rename_i va vb ha hb
   rw[ha]at hx
   rw[hb]at hy
   simp only[M.run,oi]at hrun
   subst hrun
   have:=A60 (P:=P) (w:=w) (a:=a) hop (by cases ne<;>simp[ho]) ht (Df hx).1 (Df hy).1
   refine Ad hI this ?_
   have e:(if op'= .neq then !(va==vb)else va==vb)=(if ne then !(va==vb)else va==vb):=by cases ne<;>simp[ho]
   rw[e]
   exact Lr rfl
  ·simp[M.run]at hrun
 case eqi ne x=>
  cases y' with
  |const cv=>
   cases cv<;>try (simp only[CL]at hag;cases hag;done)
   simp only[CL,bz]at hag
   obtain⟨⟨h0,h1⟩,h2⟩:=hag
   have hx:=hs.eval h2
   have ho:op'=if ne then .neq else .eql:=by cases ne<;>simpa using h0
   obtain⟨ms,ht⟩:∃ms,P.underlying t=some (.interface ms):=by
    unfold ifB at h1
    split at h1
    ·rename_i ms he;exact⟨ms,he⟩
    ·cases h1
   simp only[BL]at hrun
   split at hrun
   ·rename_i he
    rw[he]at hx
    simp only[M.run,oi]at hrun
    subst hrun
    have:=A6A (P:=P) (w:=w) (a:=a) hop (by cases ne<;>simp[ho]) ht (Df hx).1
    have e':(if op'= .neq then false else true)= !ne:=by cases ne<;>simp[ho]
    rw[e']at this
    exact Ad hI this (Lr rfl)
   ·simp[M.run]at hrun
  |_=>simp only[CL]at hag;cases hag
 case eqn ne x=>
  cases y' with
  |const cv=>
   cases cv<;>try (simp only[CL]at hag;cases hag;done)
   rename_i q0 n0 c0
   cases q0 with
   |some _=>simp only[CL]at hag;cases hag
   |none=>
   cases n0 with
   |succ _=>simp only[CL]at hag;cases hag
   |zero=>
   cases c0 with
   |succ _=>simp only[CL]at hag;cases hag
   |zero=>
   simp only[CL,bz]at hag
   obtain⟨⟨h0,h1⟩,h2⟩:=hag
   have hx:=hs.eval h2
   have ht:∃e,P.underlying t=some (.slice e):=by
    unfold slB at h1
    split at h1
    ·rename_i e he;exact⟨e,he⟩
    ·cases h1
   obtain⟨e,ht⟩:=ht
   have ho:op'=if ne then .neq else .eql:=by cases ne<;>simpa using h0
   have fin:∀{q:Option Addr} {n cap:Nat} {b:Bool},a.eval x'= .slice q n cap→b=(if ne then !q.isNone else q.isNone)→Lb P c o a w B ρ r (.t (.v (.bool b)),r):=by
    intro q n cap b hq hb
    have:=A68 (P:=P) (w:=w) (a:=a) hop (by cases ne<;>simp[ho]) ht hq
    have e':(if op'= .neq then !q.isNone else q.isNone)=b:=by rw[hb];cases ne<;>simp[ho]
    rw[e']at this
    exact Ad hI this (Lr rfl)
   simp only[BL]at hrun
   split at hrun
   ·rename_i he
    rw[he]at hx
    simp only[M.run,oi]at hrun
    subst hrun
    simp only[A6]at hx
    exact fin hx (by cases ne<;>rfl)
   ·rename_i q n cap he
    rw[he]at hx
    simp only[M.run,oi]at hrun
    subst hrun
    exact fin (Df hx).1 rfl
   ·rename_i ow row rows he
    rw[he]at hx
    simp only[M.run,oi]at hrun
    subst hrun
    simp only[A6]at hx
    cases ow with
    |true=>have:=hx.1;simp only[EV]at this
    |false=>
     have hx1:=hx.1
     simp only[EV]at hx1
     obtain⟨q,cap,e1,_,_,e4⟩:=hx1
     rcases e4 with e4|⟨b,k,sz,rfl,_⟩
     ·cases e4
     ·exact fin e1 (by cases ne<;>rfl)
   ·simp[M.run]at hrun
  |_=>simp only[CL]at hag;cases hag
 case eqs ne ks x y=>
  simp only[CL,bz]at hag
  obtain⟨⟨⟨h0,h1⟩,h2⟩,h3⟩:=hag
  have hx:=hs.eval h2
  have hy:=hs.eval h3
  have ho:op'=if ne then .neq else .eql:=by cases ne<;>simpa using h0
  simp only[BL]at hrun
  split at hrun
  ·rename_i va vb ha hb
   rw[ha]at hx
   rw[hb]at hy
   split at hrun
   ·rename_i e he
    simp only[M.run,oi]at hrun
    subst hrun
    refine Ad hI (A61 hop (by cases ne<;>simp[ho]) h1 hx hy he) ?_
    have e':(if op'= .neq then !e else e)=(if ne then !e else e):=by cases ne<;>simp[ho]
    rw[e']
    exact Lr rfl
   ·simp[M.run]at hrun
  ·simp[M.run]at hrun
theorem gW {b:Nat}:∀(l:List UInt8) (o:Nat),(∀j,j<l.length→w.cell? ⟨b,o+j,none⟩=some (.int .u8 (l.getD j 0).toNat))→CK w B b o 1 (l.map fun b=>[.v (.int .u8 (b.toNat:Int))])
 | [],o,h=>by simp[CK]
 |x::l,o,h=>by
  simp only[List.map_cons,CK,Ml]
  refine⟨rfl,⟨⟨_,by have:=h 0 (by simp);simpa using this,rfl,by simp[EV]⟩,trivial⟩,gW l (o+1) fun j hj=> ?_⟩
  have:=h (j+1) (by simpa using hj)
  rw[show o+1+j=o+(j+1) by omega,this]
  simp
theorem nq {call:Ai} (hS:EY c.G P call) {x:O} {t t':TypeId} {y:Operand} (hop:o.op= .convert t t' y) (hag:CL P x (.convert t t' y)=true) {s:List V} {d:Nat} {out:V×R} (hrun:(BL s d x).run call d r=some out) (hI:E5 c w B ρ Sf (fun _=>False) r) (hs:FO w B ρ r s a):
  Lb P c o a w B ρ r out:=by
 cases x<;>first|(exact absurd hag Bool.false_ne_true)|(simp only[CL]at hag;cases hag;done)|skip
 case cvo x=>
  simp only[CL,bz,Option.isSome_iff_exists]at hag
  obtain⟨⟨⟨dd,h1⟩,h3⟩,h2⟩:=hag
  have hx:=hs.eval h2
  obtain⟨e,g1,g2⟩:∃e,P.underlying t'=some (.slice e)∧P.underlying e=some (.int .u8):=by
   unfold A0T at h3
   split at h3
   ·rename_i e hu
    split at h3
    ·rename_i hu';exact⟨e,hu,hu'⟩
    ·cases h3
   ·cases h3
  simp only[BL]at hrun
  split at hrun
  ·rename_i st he
   rw[he]at hx
   split at hrun
   ·rename_i hsz
    obtain⟨hd,hr,hrun⟩:=QJ hrun
    simp only[M.run,oi]at hrun
    subst hrun
    obtain⟨w',u,ρ',Sf',k1,k2,k3,k4⟩:=A9R hI hop h1 g1 g2 (Df hx).1 hsz hd hr
    exact .inl ⟨u,w',k1,B,ρ',Sf',k2,by rw[List.length_set],k3,k4⟩
   ·simp[M.run]at hrun
  ·simp[M.run]at hrun
 case conv cv x=>
  have hstr:∀{t':TypeId},eq P t'=true→P.underlying t'=some .string:=by
   intro t' h
   unfold eq at h
   split at h
   ·assumption
   ·cases h
  cases cv
  case int k=>
   simp only[CL,bz]at hag
   obtain⟨h1,h2⟩:=hag
   have hx:=hs.eval h2
   simp only[BL]at hrun
   split at hrun
   ·rename_i v hv
    simp only[M.run,oi]at hrun
    subst hrun
    simp only[A8n,bz,Option.isSome_iff_exists]at h1
    obtain⟨⟨dd,h1⟩,h3⟩:=h1
    have h4:P.underlying t'=some (.int k):=by
     split at h3
     ·rename_i k' hk;simp only[beq_iff_eq]at h3;rw[h3];exact hk
     ·cases h3
    unfold gK at hv
    split at hv
    ·rename_i k0 n he
     rw[he]at hx
     simp only[oi]at hv
     subst hv
     exact Ad hI (qw (d':=dd) hop h1 h4 (Df hx).1) (Lr rfl)
    ·simp at hv
    ·cases hv
   ·simp[M.run]at hrun
  case rune=>
   simp only[CL,bz,Option.isSome_iff_exists]at hag
   obtain⟨⟨⟨dd,h1⟩,h3⟩,h2⟩:=hag
   have hx:=hs.eval h2
   simp only[BL]at hrun
   split at hrun
   ·rename_i v hv
    simp only[M.run,oi]at hrun
    subst hrun
    unfold gK at hv
    split at hv
    ·rename_i k0 n he
     rw[he]at hx
     simp only[oi]at hv
     subst hv
     exact Ad hI (no hop h1 (hstr h3) (Df hx).1) (Lr rfl)
    ·simp at hv
    ·cases hv
   ·simp[M.run]at hrun
  case same=>
   simp only[CL,bz,Option.isSome_iff_exists]at hag
   obtain⟨⟨⟨dd,h1⟩,h3⟩,h2⟩:=hag
   have hx:=hs.eval h2
   simp only[BL]at hrun
   split at hrun
   ·rename_i v hv
    simp only[M.run,oi]at hrun
    subst hrun
    unfold gK at hv
    split at hv
    ·simp at hv
    ·rename_i st he
     rw[he]at hx
     simp only[oi]at hv
     subst hv
     exact Ad hI (np hop h1 (hstr h3) (Df hx).1) (Lr rfl)
    ·cases hv
   ·simp[M.run]at hrun
  case bytes=>
   simp only[CL,bz,Option.isSome_iff_exists]at hag
   obtain⟨⟨⟨dd,h1⟩,h3⟩,h2⟩:=hag
   have hx:=hs.eval h2
   obtain⟨e,g1,g2⟩:∃e,P.underlying t'=some (.slice e)∧P.underlying e=some (.int .u8):=by
    unfold A0T at h3
    split at h3
    ·rename_i e hu
     split at h3
     ·rename_i hu';exact⟨e,hu,hu'⟩
     ·cases h3
    ·cases h3
   simp only[BL]at hrun
   split at hrun
   case h_2=>simp[M.run]at hrun
   rename_i v hv
   simp only[M.run,oi]at hrun
   subst hrun
   unfold gK at hv
   split at hv
   ·simp at hv
   case h_3=>cases hv
   rename_i st he
   rw[he]at hx
   simp only at hv
   split at hv
   case isFalse=>cases hv
   rename_i hsz
   simp only[oi]at hv
   subst hv
   have hu:a.eval y= .string st:=(Df hx).1
   have hrun2:=Lib.run_convert_string_bytes (P:=P) w t t' e st h1 g1 g2
   have hold:∀j,j<w.heap.size→(Lib.bytesWorld w e st).heap[j]? =w.heap[j]? :=fun j hj=>Lib.bytesWorld_at_old w e st j hj
   have hsame:Fx B w (Lib.bytesWorld w e st):=fun b hb=>hold b (hI.inB b hb)
   refine .inl ⟨_,_,Dx (by unfold execOp;rw[hop];simp only[hu]) hrun2,fun b=>B b∨b=w.heap.size,ρ,Sf, ?_,rfl,fun v u h=> ?_, ?_⟩
   ·exact hI.world (fun b hb _=>hold b hb) (by rw[Lib.bytesWorld_size];omega) rfl rfl rfl (fun _ h=> .inl h) (fun b h=>h.elim .inl fun h=> .inr (.inr (by omega))) (fun b h=>by
     rw[Lib.bytesWorld_size]
     rcases h with h|h
     ·have:=hI.inB b h;omega
     ·omega) (fun _ h=> .inl h) (fun _ h=>h.elim) (fun _ h=>h.elim)
   ·exact EI (fun _ h=> .inl h) hsame (fun id rows stt fx hg=>⟨Sf id,(hI.mem hg).1,fun b hb=>hold b ((hI.ents id).inHeap b hb)⟩) h
   ·have hl:(DZ st).length=st.size:=by simp[DZ]
    simp only[A6,EV]
    refine⟨⟨_,_,by rw[hl],by rw[hl];exact grownCap_ge w st.size 0 e,grownCap_le_maxLen w _ 0 e hsz, .inr ⟨w.heap.size,0,1,rfl, .inr rfl,Nat.one_pos, ?_⟩⟩,rfl⟩
    exact gW st.data.toList 0 fun j hj=>by
     rw[Nat.zero_add]
     exact Lib.bytesWorld_cell w e st j (by simpa using hj)
  case str=>
   simp only[CL,bz]at hag
   obtain⟨⟨h1,h3⟩,h2⟩:=hag
   have hx:=hs.eval h2
   have h1':∃e i,P.underlying t=some (.slice e)∧P.underlying e=some (.int .u8)∧P.info? e=some i∧i.size=1:=by
    unfold A0T at h1
    split at h1
    ·rename_i e hu
     split at h1
     ·rename_i hu'
      split at h1
      ·rename_i i hi
       exact⟨e,i,hu,hu',hi,by simpa using h1⟩
      ·cases h1
     ·cases h1
    ·cases h1
   obtain⟨e,ti,g1,g2,g3,g4⟩:=h1'
   have fin:∀{q:Option Addr} {n cap:Nat} {l:List UInt8},a.eval y= .slice q n cap→(Conv.bytesToString (.slice q n cap)).run P w= .ok (.string ⟨l.toArray⟩) w→PY P o a w (.string ⟨l.toArray⟩) w:=by
    intro q n cap l hu hr
    refine Dx (s:=convert t t' (.slice q n cap)) (by unfold execOp;rw[hop];simp only[hu]) ?_
    unfold convert
    rw[Sem.run_bind,run_underlying g1]
    simp only[Result.andThen_ok]
    rw[Sem.run_bind,run_underlying (hstr h3)]
    simp only[Result.andThen_ok]
    cases q<;>simp[run_underlying g2,hr]
   have nilr:∀{rows:Rows} {l:List UInt8} {len cap:Nat},DR rows=some l→rows=[]→(Conv.bytesToString (.slice none len cap)).run P w= .ok (.string ⟨l.toArray⟩) w:=by
    intro rows l len cap h1 h2
    subst h2
    simp only[DR,oi]at h1
    subst h1
    rfl
   have own:∀{q:Option Addr} {cap:Nat} {rows:Rows} {S:Nat→Prop} {l:List UInt8},H1 w B q cap rows S→DR rows=some l→(Conv.bytesToString (.slice q rows.length cap)).run P w= .ok (.string ⟨l.toArray⟩) w:=by
    intro q cap rows S l hO hb
    rcases hO with ⟨rfl,rfl,rfl,_⟩|⟨b,sz,e',cur,S',rfl,k1,k2,k3,k4,k5,k6,k7⟩
    ·exact nilr hb rfl
    ·cases rows with
     |nil=>
      simp only[DR,oi]at hb
      subst hb
      exact ZP (us:=[]) rfl (fun j u h=>by simp at h) rfl
     |cons row rows=>
      have hsz:sz=1:=by
       have k7':=k7
       simp only[Cf]at k7'
       obtain⟨_,_,e1,_⟩:=k7'
       unfold DR at hb
       split at hb
       ·cases ‹_::_=[]›
       ·rename_i he;cases he;exact e1.symm
       ·cases hb
      subst hsz
      obtain⟨us,i1,i2,i3⟩:=kG hb (Cf.sh1 hb k7)
      exact ZP i1 i2 i3
   simp only[BL]at hrun
   generalize A9 s x=v at hx hrun
   cases v<;>try (simp[GO,M.run]at hrun;done)
   case t ct=>
    cases ct<;>try (simp[GO,M.run]at hrun;done)
    rename_i ow rows
    simp only[GO]at hrun
    split at hrun
    ·rename_i l hb
     simp only[M.run,oi]at hrun
     subst hrun
     simp only[A6]at hx
     cases ow with
     |true=>have:=hx.1;simp only[EV]at this
     |false=>
      have hx1:=hx.1
      simp only[EV]at hx1
      obtain⟨q,cap,e1,e2,e3,e4⟩:=hx1
      refine Ad hI (fin e1 ?_) (Lr rfl)
      rcases e4 with e4|⟨b,k,sz,rfl,_,_,e5⟩
      ·subst e4
       simp only[DR,oi]at hb
       subst hb
       cases q with
       |none=>rfl
       |some ad=>
        obtain⟨b,k,x⟩:=ad
        simp[Conv.bytesToString,loadCells]
        rfl
      ·cases rows with
       |nil=>
        simp only[DR,oi]at hb
        subst hb
        exact ZP (us:=[]) rfl (fun j u h=>by simp at h) rfl
       |cons row rows=>
        have hsz:sz=1:=by
         have e5':=e5
         simp only[CK]at e5'
         unfold DR at hb
         split at hb
         ·cases ‹_::_=[]›
         ·rename_i he;cases he;exact e5'.1.symm
         ·cases hb
        subst hsz
        obtain⟨us,i1,i2,i3⟩:=kG hb e5
        exact ZP i1 i2 i3
    ·simp[M.run]at hrun
   case nil=>
    simp only[GO,DR,M.run,oi]at hrun
    subst hrun
    simp only[A6]at hx
    exact Ad hI (fin hx (nilr (rows:=[]) (l:=[]) rfl rfl)) (Lr rfl)
   case ref id n=>
    simp only[GO,M.run]at hrun
    split at hrun
    ·rename_i rows st fx hg
     split at hrun
     ·rename_i hl
      split at hrun
      ·rename_i l hb
       simp only[M.run,oi]at hrun
       subst hrun
       simp only[A6]at hx
       have hu:=(hx.2.2 rows st fx hg).2 hl
       have hO:=(hI.mem hg).1
       rw[←hl]at hu
       exact Ad hI (fin hu (own hO hb)) (Lr rfl)
      ·simp[M.run]at hrun
     ·simp[M.run]at hrun
    ·simp[M.run]at hrun
theorem uU {call:Ai} (hS:EY c.G P call) {x:O} {t:TypeId} {y:Operand} {lo' hi' mx:Option Operand} (hop:o.op= .slice t y lo' hi' mx) (hag:CL P x (.slice t y lo' hi' mx)=true) {s:List V} {d:Nat} {out:V×R} (hrun:(BL s d x).run call d r=some out) (hI:E5 c w B ρ Sf (fun _=>False) r) (hs:FO w B ρ r s a):
  Lb P c o a w B ρ r out:=by
 cases x<;>first|(exact absurd hag Bool.false_ne_true)|(simp only[CL]at hag;cases hag;done)|skip
 case vws x lo hi=>
  cases mx with
  |some m=>simp only[CL]at hag;cases hag
  |none=>
  simp only[CL,bz]at hag
  obtain⟨⟨⟨h1,h2⟩,h3⟩,h4⟩:=hag
  have hx:=hs.eval h2
  have hbnd:∀{q:Option D2} {q':Option Operand} {e:Nat} {l:Int},XA q q'=true→(match q with|none=>some (e:Int)|some q=>match A9 s q with| .t (.v (.int _ n))=>some n|_=>none)=some l→0≤l→gU (q'.map a.eval) e l.toNat:=by
   intro q q' e l hq he hl
   cases q with
   |none=>
    cases q' with
    |none=>simp only[oi]at he;exact .inl ⟨rfl,by omega⟩
    |some y=>simp[XA]at hq
   |some q=>
    cases q' with
    |none=>simp[XA]at hq
    |some y=>
     simp only[XA]at hq
     have hv:=hs.eval hq
     simp only at he
     split at he
     ·rename_i k n hn
      rw[hn]at hv
      simp only[oi]at he
      subst he
      exact .inr ⟨k,by simp only[Option.map_some];rw[(Df hv).1,Int.toNat_of_nonneg hl]⟩
     ·cases he
  obtain⟨e,i,g1,g2,g3⟩:=pu h1
  simp only[BL]at hrun
  split at hrun
  ·rename_i id n he
   rw[he]at hx
   split at hrun
   ·rename_i l h hl hh
    split at hrun
    ·rename_i hc
     simp only[M.run,oi]at hrun
     subst hrun
     simp only[A6]at hx
     obtain⟨hth,⟨q,cap,hq,hnc,hcm⟩,href⟩:=hx
     refine Ad hI (kF hop g1 g2 hq (hbnd h3 hl hc.1.1) (hbnd h4 hh (by omega)) (by omega) (by omega)) ?_
     simp only[A6]
     refine⟨hth,q,cap,by rw[g3,Nat.mul_one],by omega,by omega,hnc,by rw[←hq];exact href⟩
    ·simp[M.run]at hrun
   ·simp[M.run]at hrun
  ·simp[M.run]at hrun
 case slc sz x lo hi=>
  cases mx with
  |some m=>simp only[CL]at hag;cases hag
  |none=>
  simp only[CL,bz]at hag
  obtain⟨⟨⟨h1,h2⟩,h3⟩,h4⟩:=hag
  have hx:=hs.eval h2
  have hbnd:∀{q:Option D2} {q':Option Operand} {e:Nat} {l:Int},XA q q'=true→(match q with|none=>some (e:Int)|some q=>match A9 s q with| .t (.v (.int _ n))=>some n|_=>none)=some l→0≤l→gU (q'.map a.eval) e l.toNat:=by
   intro q q' e l hq he hl
   cases q with
   |none=>
    cases q' with
    |none=>simp only[oi]at he;exact .inl ⟨rfl,by omega⟩
    |some y=>simp[XA]at hq
   |some q=>
    cases q' with
    |none=>simp[XA]at hq
    |some y=>
     simp only[XA]at hq
     have hv:=hs.eval hq
     simp only at he
     split at he
     ·rename_i k n hn
      rw[hn]at hv
      simp only[oi]at he
      subst he
      exact .inr ⟨k,by simp only[Option.map_some];rw[(Df hv).1,Int.toNat_of_nonneg hl]⟩
     ·cases he
  simp only[BL]at hrun
  split at hrun
  ·rename_i st he
   rw[he]at hx
   split at hrun
   ·rename_i l h hl hh
    split at hrun
    ·rename_i hc
     simp only[M.run,oi]at hrun
     subst hrun
     obtain⟨hc,h0⟩:=hc
     subst h0
     have ht:P.underlying t=some .string:=by
      unfold A2Y at h1
      split at h1
      ·assumption
      ·simp at h1
      ·cases h1
     exact Ad hI (uO hop ht (Df hx).1 (hbnd h3 hl hc.1) (hbnd h4 hh (by omega)) (by omega) (by omega)) (Lr rfl)
    ·simp[M.run]at hrun
   ·simp[M.run]at hrun
  ·rename_i ow rows he
   rw[he]at hx
   split at hrun
   ·rename_i l h hl hh
    split at hrun
    ·rename_i hc
     obtain⟨hc,h0,hall⟩:=hc
     simp only[M.run,oi]at hrun
     subst hrun
     have ht:∃e i,P.underlying t=some (.slice e)∧P.info? e=some i∧i.size=sz:=by
      unfold A2Y at h1
      split at h1
      ·simp only[beq_iff_eq]at h1;omega
      ·rename_i e hu
       simp only[bz]at h1
       obtain⟨_,h1⟩:=h1
       split at h1
       ·rename_i i hi
        exact⟨e,i,hu,hi,by simpa using h1⟩
       ·cases h1
      ·cases h1
     obtain⟨e,i,g1,g2,rfl⟩:=ht
     cases ow with
     |true=>simp only[A6]at hx;have:=hx.1;simp only[EV]at this
     |false=>
      have hq:∃q cap,a.eval y= .slice q rows.length cap:=by
       simp only[A6,EV]at hx
       obtain⟨⟨q,cap,e1,_⟩,_⟩:=hx
       exact⟨q,cap,e1⟩
      obtain⟨q,cap,hq⟩:=hq
      rw[hq]at hx
      obtain⟨_,k2,k3⟩:=xJ hx (l:=l.toNat) (h:=h.toNat) (sz:=i.size) (by omega) (by omega) (fun row hr=>by simpa using List.all_eq_true.1 hall row hr)
      exact Ad hI (kF hop g1 g2 hq (hbnd h3 hl hc.1) (hbnd h4 hh (by omega)) (by omega) (by omega)) k3
    ·simp[M.run]at hrun
   ·simp[M.run]at hrun
  ·simp[M.run]at hrun
theorem uV {call:Ai} (hS:EY c.G P call) {x:O} {t:TypeId} {x' i':Operand} (hop:o.op= .index t x' i') (hag:CL P x (.index t x' i')=true) {s:List V} {d:Nat} {out:V×R} (hrun:(BL s d x).run call d r=some out) (hI:E5 c w B ρ Sf (fun _=>False) r) (hs:FO w B ρ r s a):
  Lb P c o a w B ρ r out:=by
 cases x<;>first|(exact absurd hag Bool.false_ne_true)|(simp only[CL]at hag;cases hag;done)|skip
 case ix x i=>
  simp only[CL,bz]at hag
  obtain⟨⟨h1,h2⟩,h3⟩:=hag
  have hx:=hs.eval h2
  have hi:=hs.eval h3
  simp only[BL]at hrun
  split at hrun
  ·rename_i st k n ha hb
   rw[ha]at hx
   rw[hb]at hi
   split at hrun
   ·rename_i hc
    simp only[M.run,oi]at hrun
    subst hrun
    have ht:P.underlying t=some .string:=by
     simp only[eq]at h1
     split at h1
     ·assumption
     ·cases h1
    exact Ad hI (A9O hop ht (Df hx).1 (Df hi).1 hc.1 hc.2) (Lr rfl)
   ·simp[M.run]at hrun
  ·simp[M.run]at hrun
 case ixa sz len ag x i=>
  simp only[CL,bz,decide_eq_true_eq]at hag
  obtain⟨⟨⟨h1,h0⟩,h2⟩,h3⟩:=hag
  have hx:=hs.eval h2
  have hi:=hs.eval h3
  simp only[BL]at hrun
  split at hrun
  ·rename_i cs k n ha hb
   rw[ha]at hx
   rw[hb]at hi
   simp only[A6]at hx
   obtain⟨us,e1,e2⟩:=hx
   split at hrun
   ·rename_i hc
    have hlen:us.size=cs.length:=by rw[←AJ.length e2];simp
    have hy:=A66 (P:=P) (w:=w) hop h1 e1 (Df hi).1 hc.1 hc.2.1 (by rw[hlen];exact hc.2.2)
    have hr:=(e2.drop (n.toNat*sz)).take sz
    cases ag with
    |true=>
     simp only[if_true,M.run,oi]at hrun
     subst hrun
     exact Ad hI hy (NK (ag:=true) hr (by simp))
    |false=>
     simp only[bf,if_false]at hrun
     split at hrun
     ·rename_i v hv
      simp only[M.run,oi]at hrun
      subst hrun
      have:=NK (ag:=false) hr (by rw[hv];simp)
      rw[hv]at this
      exact Ad hI hy this
     ·simp[M.run]at hrun
   ·simp[M.run]at hrun
  ·simp[M.run]at hrun
theorem uW {call:Ai} {off:Nat} {x:D2} {y:Operand} (hyes:∀ad,a.eval y= .pointer (some ad)→PY P o a w (.pointer (some (ad.add off))) w) (h2:Hu x y=true) {s:List V} {d:Nat} {out:V×R} (hrun:(BL s d (.fa off x)).run call d r=some out) (hI:E5 c w B ρ Sf (fun _=>False) r) (hs:FO w B ρ r s a):
  Lb P c o a w B ρ r out:=by
 have hx:=hs.eval h2
 simp only[BL]at hrun
 split at hrun
 ·rename_i id p i o' n st he
  rw[he]at hx
  simp only[M.run,oi]at hrun
  subst hrun
  obtain⟨ad,e1,e2⟩:=rA (off:=off) hx
  exact Ad hI (hyes _ e1) e2
 ·rename_i id o' st cs he
  rw[he]at hx
  simp only[M.run,oi]at hrun
  subst hrun
  simp only[A6]at hx
  obtain⟨hth,hP,us,hvs,hC⟩:=hx
  obtain⟨ad,e1,e2⟩:=rA (w:=w) (B:=B) (ρ:=ρ) (r:=r) (id:=id) (p:=[]) (i:=0) (m:=1) (st:=0) (off':=o') (off:=off) (by simp only[A6];exact⟨hth,hP⟩)
  refine Ad hI (hyes _ e1) ?_
  simp only[A6]at e2 ⊢
  exact⟨hth,e2.2,us,hvs,hC⟩
 ·rename_i cs he
  rw[he]at hx
  simp only[M.run,oi]at hrun
  subst hrun
  simp only[A6]at hx
  obtain⟨b,k,e1,e2,e3⟩:=hx
  refine Ad hI (hyes _ e1) ?_
  rw[DB]
  simp only[A6]
  refine⟨b,k+off,rfl,e2, ?_⟩
  by_cases hle:off≤cs.length
  ·exact Ml.drop cs off e3 hle
  ·rw[List.drop_eq_nil_of_le (by omega)];simp only[Ml]
 ·simp[M.run]at hrun
theorem iI {call:Ai} (hS:EY c.G P call) {x:O} {t:TypeId} {x' i':Operand} (hop:o.op= .indexAddr t x' i') (hag:CL P x (.indexAddr t x' i')=true) {s:List V} {d:Nat} {out:V×R} (hrun:(BL s d x).run call d r=some out) (hI:E5 c w B ρ Sf (fun _=>False) r) (hs:FO w B ρ r s a):
  Lb P c o a w B ρ r out:=by
 cases x<;>first|(exact absurd hag Bool.false_ne_true)|(simp only[CL]at hag;cases hag;done)|skip
 case fa off x=>
  cases i'<;>try (simp only[CL]at hag;cases hag;done)
  rename_i v
  cases v<;>try (simp only[CL]at hag;cases hag;done)
  simp only[CL,bz]at hag
  exact uW (fun ad e=>qy hop hag.1 e) hag.2 hrun hI hs
 case ia sz x i=>
  simp only[CL,bz]at hag
  obtain⟨⟨h1,h2⟩,h3⟩:=hag
  have hx:=hs.eval h2
  have hi:=hs.eval h3
  simp only[BL]at hrun
  split at hrun
  ·rename_i kd n he
   rw[he]at hi
   split at hrun
   ·rename_i h0
    split at hrun
    ·rename_i ow rows hx'
     rw[hx']at hx
     split at hrun
     ·rename_i row hr
      split at hrun
      ·rename_i hsz
       simp only[M.run,oi]at hrun
       subst hrun
       obtain⟨b,k,cap,e1,e2,e3⟩:=A0L hx hr hsz
       exact Ad hI (qz hop h1 e1 (Df hi).1 h0 e2) e3
      ·simp[M.run]at hrun
     ·simp[M.run]at hrun
    ·rename_i id m hx'
     rw[hx']at hx
     simp only[M.run]at hrun
     split at hrun
     ·rename_i rows stt fx hg
      split at hrun
      ·rename_i hl
       split at hrun
       ·rename_i row hr
        split at hrun
        ·rename_i hsz
         simp only[M.run,oi]at hrun
         subst hrun
         obtain⟨b,k,cap,e1,e2,e3⟩:=A9F hI hx hg hl hr hsz
         exact Ad hI (qz hop h1 e1 (Df hi).1 h0 e2) e3
        ·simp[M.run]at hrun
       ·simp[M.run]at hrun
      ·simp[M.run]at hrun
     ·simp[M.run]at hrun
    ·rename_i id p j c' m st hx'
     rw[hx']at hx
     simp only[M.run]at hrun
     split at hrun
     ·rename_i rows stt fx hg
      split at hrun
      ·rename_i hst
       subst hst
       split at hrun
       ·rename_i rs hgc
        split at hrun
        ·rename_i hl
         split at hrun
         ·rename_i row hr
          split at hrun
          ·rename_i hsz
           simp only[M.run,oi]at hrun
           subst hrun
           obtain⟨b,k,cap,e1,e2,e3⟩:=A9G hI hx hg hgc hl hr hsz
           exact Ad hI (qz hop h1 e1 (Df hi).1 h0 e2) e3
          ·simp[M.run]at hrun
         ·simp[M.run]at hrun
        ·simp[M.run]at hrun
       ·simp[M.run]at hrun
      ·simp[M.run]at hrun
     ·simp[M.run]at hrun
    ·simp[M.run]at hrun
   ·simp[M.run]at hrun
  ·simp[M.run]at hrun
theorem xS {call:Ai} (hS:EY c.G P call) {x:O} {t:TypeId} {y:Operand} (hop:o.op= .load t y) (hag:CL P x (.load t y)=true) {s:List V} {d:Nat} {out:V×R} (hrun:(BL s d x).run call d r=some out) (hI:E5 c w B ρ Sf (fun _=>False) r) (hs:FO w B ρ r s a):
  Lb P c o a w B ρ r out:=by
 cases x<;>first|(exact absurd hag Bool.false_ne_true)|(simp only[CL]at hag;cases hag;done)|skip
 case ld n ag x=>
  simp only[CL,bz,decide_eq_true_eq]at hag
  obtain⟨⟨h1,h0⟩,h2⟩:=hag
  have hx:=hs.eval h2
  have fin:∀{vs:List V} {us:List Value} {b k:Nat} {x:V×R},a.eval y= .pointer (some ⟨b,k,none⟩)→us.length=n→vs.length=n→Gx w b k us→AJ w B ρ r vs us→
    (if ag then(M.ret (.agg vs):M V)else match vs with| [v]=> .ret v|_=> .fail).run call d r=some x→Lb P c o a w B ρ r x:=by
   intro vs us b k x hy hl hlv hc hr hrun
   cases ag with
   |true=>
    simp only[if_true,M.run,oi]at hrun
    subst hrun
    exact Ad hI (A2K hop h1 hy hl hc) (NK (ag:=true) hr (by simp))
   |false=>
    simp only[bf,if_false]at hrun
    split at hrun
    ·simp only[M.run,oi]at hrun
     subst hrun
     exact Ad hI (A2K hop h1 hy hl hc) (NK (ag:=false) hr (by simp))
    ·simp[M.run]at hrun
  simp only[BL]at hrun
  split at hrun
  ·rename_i id p i off m st he
   rw[he]at hx
   simp only[M.run]at hrun
   split at hrun
   ·rename_i rows stt fx hg
    split at hrun
    ·rename_i row hr
     split at hrun
     ·rename_i hle
      obtain⟨b,k,us,e1,e2,e3,e4,e5⟩:=Vm hI hg hx hr h0 hle
      exact fin e1 e2 (by rw[←AJ.length e4,e2]) e3 e4 hrun
     ·simp[M.run]at hrun
    ·simp[M.run]at hrun
   ·simp[M.run]at hrun
  ·rename_i id off st cs he
   rw[he]at hx
   simp only[M.run]at hrun
   split at hrun
   ·rename_i rows stt fx hg
    split at hrun
    ·rename_i hc
     obtain⟨⟨hst,hrl⟩,hle⟩:=hc
     simp only[A6]at hx
     obtain⟨hth,⟨ad,e1,hP⟩,us,hvs,hC⟩:=hx
     obtain⟨row,b,rfl,z2,z3,z4⟩:=(hC _ _ _ hg).2.2 hst hrl
     have hul:=AJ.length hvs
     obtain⟨b',k,hloc,rfl⟩:=((hP _ _ _ hg).2.2 (fun _=>rfl) (fun e=>absurd rfl e)).2 row (by simp[D5]) (by omega)
     obtain⟨hq,row1,hr1,hlt,hk⟩:=hloc
     simp only[Nat.zero_mul,Nat.zero_add]at hk
     subst hk
     rw[z3]at hq
     simp only[oi,Addr.mk.injEq,and_true]at hq
     subst hq
     refine fin (us:=(us.drop k).take n) e1 (by simp;omega) (by simp;omega) (fun j u hj=> ?_) ((hvs.drop k).take n) hrun
     rw[List.getElem?_take]at hj
     split at hj
     ·rw[List.getElem?_drop]at hj
      exact z4 _ _ hj
     ·cases hj
    ·simp[M.run]at hrun
   ·simp[M.run]at hrun
  ·rename_i cs he
   rw[he]at hx
   simp only[A6]at hx
   obtain⟨b,k,e1,e2,e3⟩:=hx
   split at hrun
   ·rename_i hle
    obtain⟨us,f1,f2,f3⟩:=uC (ρ:=ρ) (r:=r) cs n e3 hle
    have f4:=ze f3
    exact fin e1 f1 (by rw[←AJ.length f4,f1]) f2 f4 hrun
   ·simp[M.run]at hrun
  ·simp[M.run]at hrun
theorem uX {call:Ai} (hS:EY c.G P call) {x:O} {t:TypeId} {x' y':Operand} (hop:o.op= .store t x' y') (hag:CL P x (.store t x' y')=true) {s:List V} {d:Nat} {out:V×R} (hrun:(BL s d x).run call d r=some out) (hI:E5 c w B ρ Sf (fun _=>False) r) (hs:FO w B ρ r s a):
  Lb P c o a w B ρ r out:=by
 cases x<;>first|(exact absurd hag Bool.false_ne_true)|(simp only[CL]at hag;cases hag;done)|skip
 case st n x y=>
  simp only[CL,bz]at hag
  obtain⟨⟨h1,h2⟩,h3⟩:=hag
  have hx:=hs.eval h2
  simp only[BL]at hrun
  split at hrun
  ·rename_i id p i off m st he
   rw[he]at hx
   obtain⟨w',Sf',g1,g2,g3,g4,g5⟩:=ABJ hI hop h1 (hs.eval h3) hx hrun
   refine .inr (.inl ⟨w',g1,B,ρ,Sf',g2,g3,g4, ?_⟩)
   rw[g5];simp only[A6]
  ·simp[M.run]at hrun
set_option maxHeartbeats 1000000 in
theorem xT {α β:Type} {call:Ai} {d:Nat} (v:V) (k:T→M α) {r:R} {x:α×R} (h:(take v k).run call d r=some x):∃t r1,(k t).run call d r1=some x∧∀(k':T→M β),(take v k').run call d r=(k' t).run call d r1:=by
 cases v with
 |t c=>exact⟨c,r,h,fun _=>rfl⟩
 |nil=>exact⟨_,r,h,fun _=>rfl⟩
 |ref id n=>
  simp only[take,M.run]at h
  cases he:Ac r id with
  |dead=>rw[he]at h;simp[M.run]at h
  |mem rows stt fx=>
   rw[he]at h
   simp only at h
   split at h
   ·rename_i hn
    exact⟨_,_,h,fun k'=>by simp only[take,M.run,he,if_pos hn]⟩
   ·simp[M.run]at h
 |sub id p i c n st=>
  simp only[take,M.run]at h
  cases he:Ac r id with
  |dead=>rw[he]at h;simp[M.run]at h
  |mem rows stt fx=>
   rw[he]at h
   simp only at h
   split at h
   ·rename_i hst
    split at h
    ·rename_i rs hg
     split at h
     ·rename_i hn
      exact⟨_,_,h,fun k'=>by simp only[take,M.run,he,if_pos hst,hg,if_pos hn]⟩
     ·simp[M.run]at h
    ·simp[M.run]at h
   ·simp[M.run]at h
 |pp cs=>exact⟨_,r,h,fun _=>rfl⟩
 |fn f caps=>
  simp only[take]at h
  split at h
  ·rename_i cs hc
   exact⟨_,r,h,fun k'=>by simp only[take,hc]⟩
  ·simp[M.run]at h
 |_=>simp[take,M.run]at h
theorem gX {α β:Type} {call:Ai} {d:Nat}:∀(vs:List V) (k:List T→M α) {r:R} {x:α×R},(FN vs k).run call d r=some x→∃ts r1,(k ts).run call d r1=some x∧∀(k':List T→M β),(FN vs k').run call d r=(k' ts).run call d r1
 | [],k,r,x,h=>⟨[],r,h,fun _=>rfl⟩
 |v::vs,k,r,x,h=>by
  simp only[FN]at h
  obtain⟨t,r1,h1,h2⟩:=xT (β:=β) v _ h
  obtain⟨ts,r2,g1,g2⟩:=gX (β:=β) vs _ h1
  exact⟨t::ts,r2,g1,fun k'=>by simp only[FN];rw[h2,g2]⟩
theorem Xx {α β:Type} {call:Ai} {d:Nat}:∀(vss:List (List V)) (k:Rows→M α) {r:R} {x:α×R},(E2 vss k).run call d r=some x→∃rs r1,(k rs).run call d r1=some x∧∀(k':Rows→M β),(E2 vss k').run call d r=(k' rs).run call d r1
 | [],k,r,x,h=>⟨[],r,h,fun _=>rfl⟩
 |vs::vss,k,r,x,h=>by
  simp only[E2]at h
  obtain⟨t,r1,h1,h2⟩:=gX (β:=β) vs _ h
  obtain⟨ts,r2,g1,g2⟩:=Xx (β:=β) vss _ h1
  exact⟨t::ts,r2,g1,fun k'=>by simp only[E2];rw[h2,g2]⟩
theorem A6B (hI:E5 c w B ρ Sf (fun _=>False) r) {t:TypeId} {n sz:Nat} {qs:Array (Nat×Operand)} {s:List V} {ps:List D2} (h:o.op= .buildSlice t n qs) (hb:xD P t n sz=true) (hp:cX ps qs.toList n=true) (hs:FO w B ρ r s a) {call:Ai} {d:Nat} {x:V×R}
  (hrun:(E2 (ps.map fun q=>cellsOf (A9 s q)) fun rs=>if rs.all fun r=>r.length==sz then .new [.mem rs 0 false] (.set (d,0) .dead (.ret (.t (.sl false (Az rs)))))else .fail).run call d r=some x):Lb P c o a w B ρ r x:=by
 obtain⟨rs,r1,g1,g2⟩:=Xx (β:=V) _ _ hrun
 split at g1
 ·rename_i hall
  obtain⟨hd,hr,g3⟩:=QJ g1
  simp only[M.run,oi]at g3
  subst g3
  have hrun2:(E2 (ps.map fun q=>cellsOf (A9 s q)) fun rs=>if rs.all fun r=>r.length==sz then M.new [.mem rs 0 false] (.ret (V.ref (d,0) rs.length))else .fail).run call d r=some (.ref (d,0) rs.length,r1.set d [.mem rs 0 false]):=by
   rw[g2,if_pos hall]
   simp only[M.run,hd,hr,List.isEmpty_nil,decide_true,Bool.and_self,if_true]
  obtain⟨w',u,ρ',Sf',h1,h2,h3,h4,h5⟩:=A2O hI h hb hp hs hrun2
  have he:Ac (r1.set d [.mem rs 0 false]) (d,0)= .mem rs 0 false:=by simp[Ac,List.getD,hd]
  have hL:=Td (r0:=r) h2 he
  have hI2:=hL.inv.share (Y:=Sf' (d,0)) (X':=fun _=>False) (fun b hb=> .inr hb) (fun b hb=>hb.elim) (fun b hb=>hb.elim)
  have h5':=h5
  simp only[A6]at h5
  have hu:=(h5.2.2 rs 0 false he).2 rfl
  have hf:=Fb.frz (B:=B) (B':=fun b=>B b∨Sf' (d,0) b) (fun _ h=> .inl h) (t:= .sl true rs) (u:=u) (S:=Sf' (d,0)) (fun _ h=> .inr h) (FM.2 ⟨_,_,hu,(h2.mem he).1⟩)
  simp only[TT.frz]at hf
  refine .inl ⟨u,w',h1,_,ρ',_,hI2,by rw[Bu];exact h3,fun v u hh=> ?_, ?_⟩
  ·exact EI (fun _ h=> .inl h) (fun _ _=>rfl) (fun j=>Ky hL.inv j) (hL.claims v u (h4 v u hh))
  ·simp only[A6]
   exact⟨hf,by rw[hu];rfl⟩
 ·simp[M.run]at g1
set_option maxHeartbeats 1000000 in
theorem A0W {call:Ai} (hS:EY c.G P call) {x:O} (hag:CL P x o.op=true) {s:List V} {d:Nat} {out:V×R} (hrun:(BL s d x).run call d r=some out) (hI:E5 c w B ρ Sf (fun _=>False) r) (hs:FO w B ρ r s a):
  Lb P c o a w B ρ r out:=by
 cases hop:o.op
 case call cl=>
  rw[hop]at hag
  refine xR hS hop ?_ hrun hI hs
  cases x<;>simpa only[CL] using hag
 case binOp op' t x' y' ty=>rw[hop]at hag;exact uT hS hop hag hrun hI hs
 case convert t t' y=>rw[hop]at hag;exact nq hS hop hag hrun hI hs
 case slice t y lo' hi' mx=>rw[hop]at hag;exact uU hS hop hag hrun hI hs
 case index t x' i'=>rw[hop]at hag;exact uV hS hop hag hrun hI hs
 case indexAddr t x' i'=>rw[hop]at hag;exact iI hS hop hag hrun hI hs
 case load t y=>rw[hop]at hag;exact xS hS hop hag hrun hI hs
 case store t x' y'=>rw[hop]at hag;exact uX hS hop hag hrun hI hs
 all_goals rw[hop]at hag
 all_goals cases x<;>first|(exact absurd hag Bool.false_ne_true)|(simp only[CL]at hag;cases hag;done)|skip
 case move.mv y x=>
  simp only[BL,M.run,oi]at hrun
  subst hrun
  exact Ad hI (A2I (.inl hop)) (hs.eval hag)
 case assign.mv y x=>
  simp only[BL,M.run,oi]at hrun
  subst hrun
  exact Ad hI (A2I (.inr hop)) (hs.eval hag)
 case pick.pick c' a' b' cc aa bb=>
  simp only[CL,bz]at hag
  obtain⟨⟨h1,h2⟩,h3⟩:=hag
  have hc:=hs.eval h1
  simp only[BL]at hrun
  split at hrun
  ·rename_i t he
   simp only[M.run,oi]at hrun
   subst hrun
   rw[he]at hc
   refine Ad hI (A2J hop (Df hc).1) ?_
   cases t
   ·exact hs.eval h3
   ·exact hs.eval h2
  ·simp[M.run]at hrun
 case alloc.alloc t z=>
  simp only[CL]at hag
  simp only[BL]at hrun
  obtain⟨hd,hr,hrun⟩:=QJ hrun
  simp only[M.run,oi]at hrun
  subst hrun
  obtain⟨w',u,ρ',Sf',h1,h2,h3,h4⟩:=A2M hI hop hag hd hr
  exact .inl ⟨u,w',h1,B,ρ',Sf',h2,by rw[List.length_set],h3,h4⟩
 case box.box t y x=>
  simp only[CL]at hag
  simp only[BL]at hrun
  obtain⟨w',u,ρ',Sf',h1,h2,h3,h4,h5⟩:=A9H hI hop (hs.eval hag) hrun
  exact .inl ⟨u,w',h1,B,ρ',Sf',h2,h3,h4,h5⟩
 case box.vbox t y x=>
  simp only[CL]at hag
  have hx:=hs.eval hag
  simp only[BL]at hrun
  split at hrun
  ·rename_i cs he
   rw[he]at hx
   obtain⟨w',u,ρ',Sf',h1,h2,h3,h4,h5⟩:=A62 hI hop hx hrun
   exact .inl ⟨u,w',h1,B,ρ',Sf',h2,h3,h4,h5⟩
  ·simp[M.run]at hrun
 case buildSlice.bsl t n qs sz ps=>
  simp only[CL,bz]at hag
  simp only[BL]at hrun
  obtain⟨w',u,ρ',Sf',h1,h2,h3,h4,h5⟩:=A2O hI hop hag.1 hag.2 hs hrun
  exact .inl ⟨u,w',h1,B,ρ',Sf',h2,h3,h4,h5⟩
 case buildSlice.bslz t n qs sz ps=>
  simp only[CL,bz]at hag
  simp only[BL]at hrun
  exact A6B hI hop hag.1 hag.2 hs hrun
 case nilCheck.nilc y x=>
  simp only[CL]at hag
  have hx:=hs.eval hag
  simp only[BL]at hrun
  split at hrun
  ·rename_i he
   simp only[M.run,oi]at hrun
   subst hrun
   rw[he]at hx
   refine Ad hI (RI hop rfl (.inl ?_)) hx
   simp only[A6]at hx
   obtain⟨_,ad,h,_⟩:=hx
   exact⟨ad,h⟩
  ·rename_i he
   simp only[M.run,oi]at hrun
   subst hrun
   rw[he]at hx
   refine Ad hI (RI hop rfl (.inl ?_)) hx
   simp only[A6]at hx
   obtain⟨_,⟨ad,h,_⟩,_⟩:=hx
   exact⟨ad,h⟩
  ·rename_i he
   simp only[M.run,oi]at hrun
   subst hrun
   rw[he]at hx
   refine Ad hI (RI hop rfl (.inl ?_)) hx
   simp only[A6]at hx
   obtain⟨b,k,h,_⟩:=hx
   exact⟨_,h⟩
  ·rename_i he
   simp only[M.run,oi]at hrun
   subst hrun
   rw[he]at hx
   refine Ad hI (RI hop rfl (.inr ?_)) hx
   simp only[A6]at hx
   obtain⟨us,h,_⟩:=hx
   exact⟨_,us,h⟩
  ·simp[M.run]at hrun
 case unOp.un op' t y op x=>
  simp only[CL,bz,beq_iff_eq]at hag
  obtain⟨rfl,h2⟩:=hag
  have hx:=hs.eval h2
  simp only[BL]at hrun
  split at hrun
  ·rename_i b he
   rw[he]at hx
   simp only[M.run,oi]at hrun
   subst hrun
   exact Ad hI (xA hop (Df hx).1) (Lr rfl)
  ·rename_i k n he
   rw[he]at hx
   simp only[M.run,oi]at hrun
   subst hrun
   exact Ad hI (xB hop (Df hx).1) (Lr rfl)
  ·simp[M.run]at hrun
 case makeSlice.mks t l cp z byt x=>
  cases x<;>try (simp only[CL]at hag;cases hag;done)
  rename_i t0
  cases l<;>try (simp only[CL]at hag;cases hag;done)
  rename_i t1
  cases cp<;>try (simp only[CL]at hag;cases hag;done)
  rename_i t2
  simp only[CL,bz,beq_iff_eq]at hag
  obtain⟨⟨h1,rfl⟩,rfl⟩:=hag
  have hx:=hs t0
  simp only[BL,A9]at hrun
  split at hrun
  ·rename_i k n he
   rw[he]at hx
   split at hrun
   ·rename_i hc
    obtain⟨hd,hr,hrun⟩:=QJ hrun
    simp only[M.run,oi]at hrun
    subst hrun
    obtain⟨w',u,ρ',Sf',g1,g2,g3,g4⟩:=A9J hI hop h1 (Df hx).1 hc.1 hc.2.1 hc.2.2 hd hr
    exact .inl ⟨u,w',g1,B,ρ',Sf',g2,by rw[List.length_set],g3,g4⟩
   ·simp[M.run]at hrun
  ·simp[M.run]at hrun
 case build.build t qs z ps=>
  simp only[CL,bz]at hag
  obtain⟨⟨h1,h2⟩,h3⟩:=hag
  simp only[BL]at hrun
  split at hrun
  ·rename_i cs hb
   simp only[M.run,oi]at hrun
   subst hrun
   obtain⟨u,g1,g2⟩:=A0P (P:=P) (w:=w) hop h1 h2 h3 hs hb
   exact Ad hI g1 g2
  ·simp[M.run]at hrun
 case field.fld t y f off n ag x=>
  simp only[CL,bz]at hag
  obtain⟨h1,h2⟩:=hag
  have hx:=hs.eval h2
  simp only[BL]at hrun
  split at hrun
  ·rename_i cs he
   rw[he]at hx
   simp only[A6]at hx
   obtain⟨us,e1,e2⟩:=hx
   split at hrun
   ·rename_i hle
    have hlen:us.size=cs.length:=by rw[←AJ.length e2];simp
    have hy:=A65 (P:=P) (w:=w) (n:=n) (ag:=ag) hop h1 e1 (by omega)
    have hr:=(e2.drop off).take n
    cases ag with
    |true=>
     simp only[if_true,M.run,oi]at hrun
     subst hrun
     exact Ad hI hy (NK (ag:=true) hr (by simp))
    |false=>
     simp only[bf,if_false]at hrun
     split at hrun
     ·rename_i v hv
      simp only[M.run,oi]at hrun
      subst hrun
      have:=NK (ag:=false) hr (by rw[hv];simp)
      rw[hv]at this
      exact Ad hI hy this
     ·simp[M.run]at hrun
   ·simp[M.run]at hrun
  ·simp[M.run]at hrun
 case fieldAddr.fa t y f off x=>
  simp only[CL,bz]at hag
  exact uW (fun ad e=>qx hop hag.1 e) hag.2 hrun hI hs
 case extract.ext y j x i=>
  simp only[CL,bz,beq_iff_eq]at hag
  obtain⟨rfl,h2⟩:=hag
  have hx:=hs.eval h2
  simp only[BL]at hrun
  split at hrun
  ·rename_i vs he
   rw[he]at hx
   split at hrun
   ·rename_i v hv
    simp only[M.run,oi]at hrun
    subst hrun
    simp only[A6]at hx
    obtain⟨us,e1,e2⟩:=hx
    obtain⟨u,e3,e4⟩:=e2.get i v hv
    exact Ad hI (A5x hop e1 (by simpa using e3)) e4
   ·simp[M.run]at hrun
  ·simp[M.run]at hrun
 case makeFunc.mkf fn first ys f caps=>
  cases fn<;>try (simp only[CL]at hag;cases hag;done)
  rename_i g
  simp only[CL,bz,beq_iff_eq,Array.isEmpty_iff]at hag
  obtain⟨⟨rfl,h1⟩,h2⟩:=hag
  subst h1
  simp only[BL,M.run,oi]at hrun
  subst hrun
  refine Ad hI (A5y hop) ?_
  simp only[A6]
  exact⟨_,rfl,by have:=hs.evals h2;simpa using this⟩
theorem A2a {call:Ai} (hS:EY c.G P call) {x:O} (hag:agX P x o.op=true) {s:List V} {d:Nat} {out:V×R} (hrun:(BL s d x).run call d r=some out) (hI:E5 c w B ρ Sf (fun _=>False) r) (hs:FO w B ρ r s a):
  Lb P c o a w B ρ r out:=by
 unfold agX at hag
 cases h:uR x with
 |true=>
  obtain⟨v,i,rfl⟩:=A2Z h
  exact absurd hrun (by simp[BL,A9,Uw,M.run])
 |false=>
  rw[h,Bool.false_or]at hag
  exact A0W hS hag (A0U hrun) hI hs
end
end TT
