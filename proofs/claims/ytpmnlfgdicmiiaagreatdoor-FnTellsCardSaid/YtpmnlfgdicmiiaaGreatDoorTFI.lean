import Derived.Test.YtpmnlfgdicmiiaaGreatDoorTHX4
import Derived.Deep.LoopGhost
import Derived.Deep.DeepFit
import Derived.WalkKit
import Derived.Test.YtpmnlfgdicmiiaaGreatDoorProg
import Derived.KernelRfl
set_option linter.unusedVariables false
set_option linter.unusedSimpArgs false
namespace TT
open Go Go.Proofs Go.Shelf Go.RowKit Go.Lib
set_option maxHeartbeats 4000000 in
set_option maxRecDepth 100000 in
theorem A4v (g:Nat) (eg:∀args w,(callFunc g args).run Tryz.prog w= .ok (.enter g args) w) (lb:Array Value) (b off n c:Nat) (v:Nat→Nat→Value) (p:Nat→Bool) (w:World) (hb:b<w.heap.size) (hbig:n≤9223372036854775807)
  (hc:∀j,j<n→∀i,i<4→w.cell? ⟨b,off+j*4+i,none⟩=some (v j i))
  (hp:∀j,j<n→∀W,Below w.heap.size w W→Calls Tryz.prog g (#[.agg #[v j 0,v j 1,v j 2,v j 3]]++lb) W fun e w'=>e= .returned (.bool (p j))∧Below w.heap.size w w'):
  Calls Tryz.prog 187 #[.slice (some ⟨b,off,none⟩) n c, .func (.func g) #[] lb] w fun e w'=>(∃r:Int,e= .returned (.int .i64 r)∧(0≤r↔∃j,j<n∧p j=true))∧Below w.heap.size w w':=by
 have mixed:Tryz.prog.follows .mixedOrders=true:=by kernel_rfl
 go_enter Tryz.func187,Tryz.ntmps187
 go_wp2_with fail
 go_loopg [5,8] n (fun gg _ s8 wr=>∃kk:Nat,kk≤n∧n-kk≤gg∧s8= .int .i64 kk∧Aside (Below w.heap.size w wr)∧Aside (∀j,j<kk→p j=false))
 case atStart=>exact⟨0,Nat.zero_le _,by omega,rfl,Below.refl _ w,fun j hj=>absurd hj (Nat.not_lt_zero _)⟩
 case round=>
  obtain⟨kk,hkk,hg,rfl,BW,AA⟩:=hrel
  by_cases hlt:kk<n
  ·have hltz:(kk:Int)<(n:Int):=by omega
   have hBw:=BW.out
   have y0:wr.cell? ⟨b,off+kk*4,none⟩=some (v kk 0):=by
    have:=hc kk hlt 0 (by omega)
    rw[hBw.cell (p:=⟨b,off+kk*4,none⟩) hb];simpa using this
   have y1:wr.cell? ⟨b,off+kk*4+1,none⟩=some (v kk 1):=by
    have:=hc kk hlt 1 (by omega)
    rw[hBw.cell (p:=⟨b,off+kk*4+1,none⟩) hb];exact this
   have y2:wr.cell? ⟨b,off+kk*4+2,none⟩=some (v kk 2):=by
    have:=hc kk hlt 2 (by omega)
    rw[hBw.cell (p:=⟨b,off+kk*4+2,none⟩) hb];exact this
   have y3:wr.cell? ⟨b,off+kk*4+3,none⟩=some (v kk 3):=by
    have:=hc kk hlt 3 (by omega)
    rw[hBw.cell (p:=⟨b,off+kk*4+3,none⟩) hb];exact this
   have hcall:=hp kk hlt wr BW.out
   clear hc hp
   cases hq:p kk with
   |true=>
    rw[hq]at hcall
    go_wp2_with (go_at_fn g;refine hcall.mono ?_;rintro e w' ⟨rfl,hb'⟩)
    go_ret
    exact⟨⟨_,rfl,fun _=>⟨kk,hlt,hq⟩,fun _=>by omega⟩,hb'⟩
   |false=>
    rw[hq]at hcall
    go_wp2_with (go_at_fn g;refine hcall.mono ?_;rintro e w' ⟨rfl,hb'⟩)
    go_roundg (n-(kk+1))
    case measure=>omega
    case rel=>
     refine⟨kk+1,by omega,by omega,by go_num,hb',(show Aside _ from fun j hj=> ?_)⟩
     by_cases e:j=kk
     ·subst e
      exact hq
     ·exact AA.out j (by omega)
  ·have hltz:¬(kk:Int)<(n:Int):=by omega
   have:kk=n:=by omega
   subst this
   go_wp2_with fail
   go_ret
   exact⟨⟨_,rfl,fun h=>by omega,fun⟨j,hj,hp'⟩=>by rw[AA.out j hj]at hp';cases hp'⟩,BW.out⟩
theorem A4w (fv:Value) (q:Option Addr) (c:Nat) (w:World):Calls Tryz.prog 187 #[.slice q 0 c,fv] w fun e w'=>(∃r:Int,e= .returned (.int .i64 r)∧(0≤r↔False))∧Below w.heap.size w w':=by
 go_enter Tryz.func187,Tryz.ntmps187
 go_wp2_with fail
 go_loopg [5,8] 0 (fun gg _ s8 wr=>s8= .int .i64 0∧wr=w)
 case atStart=>exact⟨rfl,rfl⟩
 case round=>
  obtain⟨rfl,rfl⟩:=hrel
  go_wp2_with fail
  go_ret
  exact⟨⟨-1,rfl,by decide⟩,Below.refl _ _⟩
theorem vf (g:Nat) (lb:Array Value) (u:Value) (w:World) (p:Prop) (h:Calls Tryz.prog 187 #[u, .func (.func g) #[] lb] w fun e w'=>(∃r:Int,e= .returned (.int .i64 r)∧(0≤r↔p))∧Below w.heap.size w w'):
  Calls Tryz.prog 129 #[u, .func (.func g) #[] lb] w fun e w'=>(∃r:Bool,e= .returned (.bool r)∧(r=true↔p))∧Below w.heap.size w w':=by
 go_enter Tryz.func129,Tryz.ntmps129
 go_wp2_with (go_at_call 187;refine h.mono ?_;rintro e w' ⟨⟨r,rfl,hr⟩,hb'⟩)
 go_ret
 exact⟨⟨_,rfl,by rw[decide_eq_true_iff];exact hr⟩,hb'⟩
set_option maxHeartbeats 4000000 in
set_option maxRecDepth 100000 in
theorem A4x (g:Nat) (eg:∀args w,(callFunc g args).run Tryz.prog w= .ok (.enter g args) w) (lb:Array Value) (b off n c:Nat) (v:Nat→Nat→Value) (p:Nat→Bool) (w:World) (hb:b<w.heap.size) (hbig:n≤9223372036854775807)
  (hc:∀j,j<n→∀i,i<8→w.cell? ⟨b,off+j*8+i,none⟩=some (v j i))
  (hp:∀j,j<n→∀W,Below w.heap.size w W→Calls Tryz.prog g (#[.agg #[v j 0,v j 1,v j 2,v j 3,v j 4,v j 5,v j 6,v j 7]]++lb) W fun e w'=>e= .returned (.bool (p j))∧Below w.heap.size w w'):
  Calls Tryz.prog 223 #[.slice (some ⟨b,off,none⟩) n c, .func (.func g) #[] lb] w fun e w'=>(∃r:Int,e= .returned (.int .i64 r)∧(0≤r↔∃j,j<n∧p j=true))∧Below w.heap.size w w':=by
 have mixed:Tryz.prog.follows .mixedOrders=true:=by kernel_rfl
 go_enter Tryz.func223,Tryz.ntmps223
 go_wp2_with fail
 go_loopg [5,8] n (fun gg _ s8 wr=>∃kk:Nat,kk≤n∧n-kk≤gg∧s8= .int .i64 kk∧Aside (Below w.heap.size w wr)∧Aside (∀j,j<kk→p j=false))
 case atStart=>exact⟨0,Nat.zero_le _,by omega,rfl,Below.refl _ w,fun j hj=>absurd hj (Nat.not_lt_zero _)⟩
 case round=>
  obtain⟨kk,hkk,hg,rfl,BW,AA⟩:=hrel
  by_cases hlt:kk<n
  ·have hltz:(kk:Int)<(n:Int):=by omega
   have hBw:=BW.out
   have y0:wr.cell? ⟨b,off+kk*8,none⟩=some (v kk 0):=by
    have:=hc kk hlt 0 (by omega)
    rw[hBw.cell (p:=⟨b,off+kk*8,none⟩) hb];simpa using this
   have y1:wr.cell? ⟨b,off+kk*8+1,none⟩=some (v kk 1):=by
    have:=hc kk hlt 1 (by omega)
    rw[hBw.cell (p:=⟨b,off+kk*8+1,none⟩) hb];exact this
   have y2:wr.cell? ⟨b,off+kk*8+2,none⟩=some (v kk 2):=by
    have:=hc kk hlt 2 (by omega)
    rw[hBw.cell (p:=⟨b,off+kk*8+2,none⟩) hb];exact this
   have y3:wr.cell? ⟨b,off+kk*8+3,none⟩=some (v kk 3):=by
    have:=hc kk hlt 3 (by omega)
    rw[hBw.cell (p:=⟨b,off+kk*8+3,none⟩) hb];exact this
   have y4:wr.cell? ⟨b,off+kk*8+4,none⟩=some (v kk 4):=by
    have:=hc kk hlt 4 (by omega)
    rw[hBw.cell (p:=⟨b,off+kk*8+4,none⟩) hb];exact this
   have y5:wr.cell? ⟨b,off+kk*8+5,none⟩=some (v kk 5):=by
    have:=hc kk hlt 5 (by omega)
    rw[hBw.cell (p:=⟨b,off+kk*8+5,none⟩) hb];exact this
   have y6:wr.cell? ⟨b,off+kk*8+6,none⟩=some (v kk 6):=by
    have:=hc kk hlt 6 (by omega)
    rw[hBw.cell (p:=⟨b,off+kk*8+6,none⟩) hb];exact this
   have y7:wr.cell? ⟨b,off+kk*8+7,none⟩=some (v kk 7):=by
    have:=hc kk hlt 7 (by omega)
    rw[hBw.cell (p:=⟨b,off+kk*8+7,none⟩) hb];exact this
   have hcall:=hp kk hlt wr BW.out
   clear hc hp
   cases hq:p kk with
   |true=>
    rw[hq]at hcall
    go_wp2_with (go_at_fn g;refine hcall.mono ?_;rintro e w' ⟨rfl,hb'⟩)
    go_ret
    exact⟨⟨_,rfl,fun _=>⟨kk,hlt,hq⟩,fun _=>by omega⟩,hb'⟩
   |false=>
    rw[hq]at hcall
    go_wp2_with (go_at_fn g;refine hcall.mono ?_;rintro e w' ⟨rfl,hb'⟩)
    go_roundg (n-(kk+1))
    case measure=>omega
    case rel=>
     refine⟨kk+1,by omega,by omega,by go_num,hb',(show Aside _ from fun j hj=> ?_)⟩
     by_cases e:j=kk
     ·subst e
      exact hq
     ·exact AA.out j (by omega)
  ·have hltz:¬(kk:Int)<(n:Int):=by omega
   have:kk=n:=by omega
   subst this
   go_wp2_with fail
   go_ret
   exact⟨⟨_,rfl,fun h=>by omega,fun⟨j,hj,hp'⟩=>by rw[AA.out j hj]at hp';cases hp'⟩,BW.out⟩
theorem A4y (fv:Value) (q:Option Addr) (c:Nat) (w:World):Calls Tryz.prog 223 #[.slice q 0 c,fv] w fun e w'=>(∃r:Int,e= .returned (.int .i64 r)∧(0≤r↔False))∧Below w.heap.size w w':=by
 go_enter Tryz.func223,Tryz.ntmps223
 go_wp2_with fail
 go_loopg [5,8] 0 (fun gg _ s8 wr=>s8= .int .i64 0∧wr=w)
 case atStart=>exact⟨rfl,rfl⟩
 case round=>
  obtain⟨rfl,rfl⟩:=hrel
  go_wp2_with fail
  go_ret
  exact⟨⟨-1,rfl,by decide⟩,Below.refl _ _⟩
theorem vg (g:Nat) (lb:Array Value) (u:Value) (w:World) (p:Prop) (h:Calls Tryz.prog 223 #[u, .func (.func g) #[] lb] w fun e w'=>(∃r:Int,e= .returned (.int .i64 r)∧(0≤r↔p))∧Below w.heap.size w w'):
  Calls Tryz.prog 177 #[u, .func (.func g) #[] lb] w fun e w'=>(∃r:Bool,e= .returned (.bool r)∧(r=true↔p))∧Below w.heap.size w w':=by
 go_enter Tryz.func177,Tryz.ntmps177
 go_wp2_with (go_at_call 223;refine h.mono ?_;rintro e w' ⟨⟨r,rfl,hr⟩,hb'⟩)
 go_ret
 exact⟨⟨_,rfl,by rw[decide_eq_true_iff];exact hr⟩,hb'⟩
theorem AB7 {x:ByteArray} (h:x.toList=[]):x=⟨#[]⟩:=by
 rw[Lib.toList_data]at h
 cases x;congr 1;exact Array.toList_inj.1 h
theorem AB8 (x y:ByteArray):(x.toList==y.toList)=decide (x=y):=by
 rw[Bool.eq_iff_iff,beq_iff_eq,decide_eq_true_iff,Lib.toList_data,Lib.toList_data]
 exact⟨fun h=>by cases x;cases y;congr 1;exact Array.toList_inj.1 h,fun h=>by rw[h]⟩
theorem A1I {ty:TypeId} (hcat:Wb Tryz.prog 222 2 32 ty) (u1 u2:Value) (l1 l2:List (ByteArray×ByteArray)) (W:World) (h1:PrL W.heap.size W u1 l1) (h2:PrL W.heap.size W u2 l2) (hn:(l1++l2).length≤4000000):
  Calls Tryz.prog 174 #[u1,u2] W fun e w'=>∃q cap,e= .returned (.slice q (l1++l2).length cap)∧PrL w'.heap.size w' (.slice q (l1++l2).length cap) (l1++l2)∧Below W.heap.size W w':=by
 obtain⟨q1,c1,rfl,k1⟩:=h1
 obtain⟨q2,c2,rfl,k2⟩:=h2
 rw[List.length_append]at hn
 have hb0:Below W.heap.size W (W.alloc (.cells #[.slice q1 l1.length c1, .slice q2 l2.length c2] 41)):=(Below.refl _ W).alloc (Nat.le_refl _) _
 have hheap:(W.alloc (.cells #[.slice q1 l1.length c1, .slice q2 l2.length c2] 41)).heap[W.heap.size]? =some (.cells #[.slice q1 l1.length c1, .slice q2 l2.length c2] 41 (0,0)):=by
  show(W.heap.push _)[W.heap.size]? =_
  exact Array.getElem?_push_size
 have hsz:(W.alloc (.cells #[.slice q1 l1.length c1, .slice q2 l2.length c2] 41)).heap.size=W.heap.size+1:=World.size_alloc _ _
 have hcall:=hcat W.heap.size 0 2 q1 q2 l1.length c1 l2.length c2 (cells2 l1) (cells2 l2) _ (by simp only[World.cell?];rw[hheap];rfl) (by simp only[World.cell?];rw[hheap];rfl) (by omega) (by omega) (kg l1) (kg l2) (kh l1) (kh l2)
  (k1.imp id fun⟨b,o,e1,e2,e3⟩=>⟨b,o,e1,by omega,fun j u hj=>(hb0.cell (p:=⟨b,o+j,none⟩) e2).trans (e3 j u hj)⟩)
  (k2.imp id fun⟨b,o,e1,e2,e3⟩=>⟨b,o,e1,by omega,fun j u hj=>(hb0.cell (p:=⟨b,o+j,none⟩) e2).trans (e3 j u hj)⟩)
 generalize hWW:W.alloc (.cells #[.slice q1 l1.length c1, .slice q2 l2.length c2] 41)=W1 at hcall hb0 hsz
 have hres:Calls Tryz.prog 222 #[.slice (some ⟨W.heap.size,0,none⟩) 2 2] W1 fun e w'=>∃q cap,e= .returned (.slice q (l1++l2).length cap)∧PrL w'.heap.size w' (.slice q (l1++l2).length cap) (l1++l2)∧Below W.heap.size W w':=by
  refine hcall.mono ?_
  rintro e w' (⟨z,rfl,rfl⟩|⟨z,GG,cur,rfl,g1,g2,g3,g4,g5,g6⟩)
  ·exact⟨none,0,by rw[List.length_append,z],⟨none,0,rfl, .inl (by rw[List.length_append,z])⟩,hb0⟩
  ·refine⟨_,GG,by rw[List.length_append],⟨_,GG,rfl, .inr ⟨W1.heap.size,0,rfl,wz g1,fun j v hj=> ?_⟩⟩,hb0.trans (g6.mono (by omega))⟩
   rw[ym,←g5,List.getElem?_take]at hj
   split at hj
   ·simp only[World.cell?,g1,Nat.zero_add]
    rw[←Array.getElem?_toList]
    simpa using hj
   ·cases hj
 go_enter Tryz.func174,Tryz.ntmps174
 go_wp2_with (go_at_call 222;refine hres.mono ?_;rintro e w' ⟨qq,cq,rfl,hu,hb'⟩)
 go_ret
 exact⟨qq,cq,by rw[List.length_append];rfl,hu,hb'⟩
theorem qQ (hsp:Pn Tryz.prog 124) (ob:Nat) (u:Value) (own:List (ByteArray×ByteArray)) (pre uri:ByteArray) (W:World) (hc:W.cell? ⟨ob,0,none⟩=some u) (hu:PrL W.heap.size W u own) (hl:own.length≤4000000):
  Calls Tryz.prog 175 #[.string pre, .string uri, .pointer (some ⟨ob,0,none⟩)] W fun e w'=>e= .returned (.bool (Uy own pre uri))∧Below W.heap.size W w':=by
 have hp:=hu.prs
 obtain⟨q,cap,rfl,_⟩:=hu
 have hcall:=hsp q own.length cap _ _ pre W (by omega) hp
 rw[←qO]at hcall
 unfold Uy
 generalize I2 own pre=r at hcall ⊢
 obtain⟨r1,r2⟩:=r
 clear hp
 go_enter Tryz.func175,Tryz.ntmps175
 go_wp2_with (go_at_call 124;refine hcall.mono ?_;rintro e w' ⟨rfl,hb'⟩)
 ·rename_i h
  go_ret
  exact⟨by rw[h,AB8];rfl,hb'⟩
 ·rename_i h
  go_ret
  exact⟨by rw[Bool.eq_false_iff.2 h];rfl,hb'⟩
theorem A8K (hsp:Pn Tryz.prog 124) (mb ob:Nat) (u:Value) (own:List (ByteArray×ByteArray)) (a b c d:ByteArray) (W:World) (hm:W.cell? ⟨mb,0,none⟩=some (.func (.func 175) #[] #[.pointer (some ⟨ob,0,none⟩)])) (hc:W.cell? ⟨ob,0,none⟩=some u) (hu:PrL W.heap.size W u own) (hl:own.length≤4000000):
  Calls Tryz.prog 176 #[.agg #[.string a, .string b, .string c, .string d], .pointer (some ⟨mb,0,none⟩)] W fun e w'=>e= .returned (.bool (!dA own (a,c)))∧Below W.heap.size W w':=by
 have hb0:Below W.heap.size W (W.alloc (.cells #[.string a, .string b, .string c, .string d] 82)):=(Below.refl _ W).alloc (Nat.le_refl _) _
 have hm':(W.alloc (.cells #[.string a, .string b, .string c, .string d] 82)).cell? ⟨mb,0,none⟩=some (.func (.func 175) #[] #[.pointer (some ⟨ob,0,none⟩)]):=(hb0.cell (p:=⟨mb,0,none⟩) (Nr hm)).trans hm
 have hc':(W.alloc (.cells #[.string a, .string b, .string c, .string d] 82)).cell? ⟨ob,0,none⟩=some u:=(hb0.cell (p:=⟨ob,0,none⟩) (Nr hc)).trans hc
 have hcall:=qQ hsp ob u own a c _ hc' ((hu.below hb0).up (World.size_alloc _ _▸Nat.le_succ _)) hl
 clear hm hc hc' hu
 go_enter Tryz.func176,Tryz.ntmps176
 go_wp2_with (go_at_call 175;refine hcall.mono ?_;rintro e w' ⟨rfl,hb'⟩)
 ·rename_i h
  go_ret
  exact⟨by rw[AB7 h];rfl,hb0⟩
 ·rename_i h
  go_ret
  refine⟨?_,hb0.trans (hb'.mono (World.size_alloc _ _▸Nat.le_succ _))⟩
  have e:decide (a=⟨#[]⟩)=false:=decide_eq_false fun e=>h (by rw[e,Lib.toList_data])
  have e2:(!a.toList.isEmpty)=true:=by cases hq:a.toList with
   |nil=>exact absurd hq h
   |cons y ys=>rfl
  simp only[dA,e,Bool.false_or]
  show Ending.returned (Value.bool (!a.toList.isEmpty&& !Uy own a c))=_
  rw[e2];rfl
theorem A8L (ob:Nat) (u v0 v1 v2 v3 v4 v5 v6 v7:Value) (b:Bool) (W:World) (hc:W.cell? ⟨ob,0,none⟩=some u) (h:Calls Tryz.prog 120 #[.agg #[v0,v1,v2,v3,v4,v5,v6,v7],u] (W.alloc (.cells #[v0,v1,v2,v3,v4,v5,v6,v7] 45)) fun e w'=>e= .returned (.bool b)∧Below (W.alloc (.cells #[v0,v1,v2,v3,v4,v5,v6,v7] 45)).heap.size (W.alloc (.cells #[v0,v1,v2,v3,v4,v5,v6,v7] 45)) w'):
  Calls Tryz.prog 178 #[.agg #[v0,v1,v2,v3,v4,v5,v6,v7], .pointer (some ⟨ob,0,none⟩)] W fun e w'=>e= .returned (.bool (!b))∧Below W.heap.size W w':=by
 have hb0:Below W.heap.size W (W.alloc (.cells #[v0,v1,v2,v3,v4,v5,v6,v7] 45)):=(Below.refl _ W).alloc (Nat.le_refl _) _
 have hc':(W.alloc (.cells #[v0,v1,v2,v3,v4,v5,v6,v7] 45)).cell? ⟨ob,0,none⟩=some u:=(hb0.cell (p:=⟨ob,0,none⟩) (Nr hc)).trans hc
 clear hc
 go_enter Tryz.func178,Tryz.ntmps178
 go_wp2_with (go_at_call 120;refine h.mono ?_;rintro e w' ⟨rfl,hb'⟩)
 go_ret
 exact⟨rfl,hb0.trans (hb'.mono (World.size_alloc _ _▸Nat.le_succ _))⟩
theorem AB9 {P:Program} (W:World) (x y:Value) (t:TypeId) (h:y.oneCell'=true):Sem.run P (store ⟨W.heap.size,0,none⟩ y) (W.alloc (.cells #[x] t))= .ok () (W.alloc (.cells #[y] t)):=by
 have e:(W.alloc (.cells #[x] t)).heap[W.heap.size]? =some (.cells #[x] t (0,0)):=by
  show(W.heap.push _)[W.heap.size]? =_
  exact Array.getElem?_push_size
 have hh:W.alloc (.cells #[y] t)=(W.alloc (.cells #[x] t)).setCell ⟨W.heap.size,0,none⟩ y:=by
  simp only[World.alloc,World.setCell]
  congr 1
  apply Array.ext_getElem?
  intro i
  simp only[Array.getElem?_modify,Array.getElem?_push]
  by_cases hi:i=W.heap.size
  ·subst hi;simp
  ·simp[hi,Ne.symm hi]
 have c0:(W.alloc (.cells #[x] t)).cell? ⟨W.heap.size,0,none⟩=some x:=by simp only[World.cell?];rw[e];rfl
 have f0:(W.alloc (.cells #[x] t)).frozen? ⟨W.heap.size,0,none⟩=false:=by simp only[World.frozen?];rw[e];rfl
 rw[hh,run_store P _ _ _ _ h]
 simp[c0,f0]
theorem A00 {α:Type} [Inhabited α] (f:α→Bool) (l:List α) (r:Bool) (h:r=true↔∃j,j<l.length∧(!f (l.getD j default))=true):r= !l.all f:=by
 have key:l.all f=false↔∃j,j<l.length∧(!f (l.getD j default))=true:=by
  rw[List.all_eq_false]
  constructor
  ·rintro ⟨x,hx,hf⟩
   obtain⟨j,hj,rfl⟩:=List.mem_iff_getElem.1 hx
   exact⟨j,hj,by rw[List.getD_eq_getElem?_getD,List.getElem?_eq_getElem hj];simpa using hf⟩
  ·rintro ⟨j,hj,hf⟩
   refine⟨l[j],List.getElem_mem hj, ?_⟩
   rw[List.getD_eq_getElem?_getD,List.getElem?_eq_getElem hj]at hf
   simpa using hf
 cases hr:r with
 |true=>rw[key.2 (h.1 hr)];rfl
 |false=>
  cases ha:l.all f with
  |true=>rfl
  |false=>have:=h.2 (key.1 ha);rw[hr]at this;cases this
theorem A4z (hsp:Pn Tryz.prog 124) (mb ob:Nat) (u:Value) (own a:List (ByteArray×ByteArray)) (at':Rows) (ha:Y7 at'=some a) (va:Value) (W:World) (B:Nat→Prop) (hB:∀b,B b→b<W.heap.size) (hva:EV W B (.sl false at') va)
  (hm:W.cell? ⟨mb,0,none⟩=some (.func (.func 175) #[] #[.pointer (some ⟨ob,0,none⟩)])) (hc:W.cell? ⟨ob,0,none⟩=some u) (hu:PrL W.heap.size W u own) (hl:own.length≤4000000):
  Calls Tryz.prog 129 #[va, .func (.func 176) #[] #[.pointer (some ⟨mb,0,none⟩)]] W fun e w'=>e= .returned (.bool (!a.all (dA own)))∧Below W.heap.size W w':=by
 simp only[EV]at hva
 obtain⟨q,cap,rfl,h2,h3,h4⟩:=hva
 rcases h4 with rfl|⟨b,o,sz,rfl,h6,h7,h8⟩
 ·cases ha
  refine(vf _ _ _ W False (A4w _ q cap W)).mono ?_
  rintro e w' ⟨⟨r,rfl,hr⟩,hb⟩
  have:r=false:=by cases r;rfl;exact(hr.1 rfl).elim
  exact⟨by rw[this];rfl,hb⟩
 obtain⟨hlen,hat⟩:=kj ha
 have hall:∀j,j<at'.length→∃x y z t,a[j]? =some (x,z)∧W.cell? ⟨b,o+j*4+0,none⟩=some (.string x)∧W.cell? ⟨b,o+j*4+1,none⟩=some (.string y)∧W.cell? ⟨b,o+j*4+2,none⟩=some (.string z)∧W.cell? ⟨b,o+j*4+3,none⟩=some (.string t):=fun j hj=>by
  obtain⟨x,y,z,t,e1,e2⟩:=hat j _ (List.getElem?_eq_getElem hj)
  obtain⟨us,g1,g2,g3⟩:=CK.elems h8 j _ (List.getElem?_eq_getElem hj)
  rw[e1]at g2
  simp only[H4,EV]at g2
  obtain⟨_,_,rfl,rfl,_,_,_,rfl,rfl,_,_,_,rfl,rfl,_,_,_,rfl,rfl,_,rfl⟩:=g2
  have hs:sz=4:=by simpa using g1.symm
  subst hs
  exact⟨x,y,z,t,e2,g3 0 _ rfl,g3 1 _ rfl,g3 2 _ rfl,g3 3 _ rfl⟩
 refine(vf 176 _ _ W (∃j,j<at'.length∧(!dA own (a.getD j default))=true) (A4v 176 (enters_of Tryz.func176 (by kernel_rfl) rfl) _ b o at'.length cap (fun j i=>(W.cell? ⟨b,o+j*4+i,none⟩).getD undef) (fun j=> !dA own (a.getD j default)) W (hB b h6) (by unfold maxLen at h3;omega) ?_ ?_)).mono ?_
 ·intro j hj i hi
  obtain⟨x,y,z,t,_,e0,e1,e2,e3⟩:=hall j hj
  match i,hi with
  |0,_=>simp only[e0];rfl
  |1,_=>simp only[e1];rfl
  |2,_=>simp only[e2];rfl
  |3,_=>simp only[e3];rfl
 ·intro j hj W' hW'
  obtain⟨x,y,z,t,ex,e0,e1,e2,e3⟩:=hall j hj
  simp only[e0,e1,e2,e3,Option.getD_some]
  have hx:a.getD j default=(x,z):=by rw[List.getD_eq_getElem?_getD,ex];rfl
  rw[hx]
  refine(A8K hsp mb ob u own x y z t W' ((hW'.cell (p:=⟨mb,0,none⟩) (Nr hm)).trans hm) ((hW'.cell (p:=⟨ob,0,none⟩) (Nr hc)).trans hc) ((hu.below hW').up hW'.size) hl).mono ?_
  rintro e w' ⟨rfl,hb'⟩
  exact⟨rfl,hW'.trans (hb'.mono hW'.size)⟩
 ·rintro e w' ⟨⟨r,rfl,hr⟩,hb⟩
  rw[←hlen]at hr
  exact⟨by rw[A00 (dA own) a r hr],hb⟩
def A94 (n:Nat):Prop:=∀(ts:List T) (l:List (ByteArray×ByteArray)) (b:Bool) (w:World) (B:Nat→Prop) (us:List Value) (u:Value),sizeOf ts≤n→RO ts l=some b→(∀x,B x→x<w.heap.size)→H4 w B ts us→PrL w.heap.size w u l→
  Calls Tryz.prog 120 #[.agg us.toArray,u] w fun e w'=>e= .returned (.bool b)∧Below w.heap.size w w'
theorem A50 (n:Nat) (H:A94 n) (ob:Nat) (u:Value) (own:List (ByteArray×ByteArray)) (ks:Rows) (c:Bool) (hk:Uz ks own=some c) (hn:sizeOf ks≤n) (vk:Value) (W:World) (B:Nat→Prop) (hB:∀b,B b→b<W.heap.size) (hvk:EV W B (.sl false ks) vk)
  (hc:W.cell? ⟨ob,0,none⟩=some u) (hu:PrL W.heap.size W u own):
  Calls Tryz.prog 177 #[vk, .func (.func 178) #[] #[.pointer (some ⟨ob,0,none⟩)]] W fun e w'=>e= .returned (.bool (!c))∧Below W.heap.size W w':=by
 simp only[EV]at hvk
 obtain⟨q,cap,rfl,h2,h3,h4⟩:=hvk
 obtain⟨hc1,hc2⟩:=ki hk
 rcases h4 with rfl|⟨b,o,sz,rfl,h6,h7,h8⟩
 ·refine(vg _ _ _ W False (A4y _ q cap W)).mono ?_
  rintro e w' ⟨⟨r,rfl,hr⟩,hb⟩
  have:r=false:=by cases r;rfl;exact(hr.1 rfl).elim
  exact⟨by rw[this,hc1];rfl,hb⟩
 have hall:∀j,j<ks.length→∃c' u0 u1 u2 u3 u4 u5 u6 u7,RO (ks.getD j default) own=some c'∧sizeOf (ks.getD j default)≤n∧H4 W B (ks.getD j default) [u0,u1,u2,u3,u4,u5,u6,u7]∧W.cell? ⟨b,o+j*8+0,none⟩=some u0∧W.cell? ⟨b,o+j*8+1,none⟩=some u1∧W.cell? ⟨b,o+j*8+2,none⟩=some u2∧W.cell? ⟨b,o+j*8+3,none⟩=some u3∧W.cell? ⟨b,o+j*8+4,none⟩=some u4∧W.cell? ⟨b,o+j*8+5,none⟩=some u5∧W.cell? ⟨b,o+j*8+6,none⟩=some u6∧W.cell? ⟨b,o+j*8+7,none⟩=some u7:=fun j hj=>by
  have hg:ks.getD j default=ks[j]:=by rw[List.getD_eq_getElem?_getD,List.getElem?_eq_getElem hj];rfl
  obtain⟨c',hc'⟩:=hc2 _ (List.getElem_mem hj)
  obtain⟨us,g1,g2,g3⟩:=CK.elems h8 j _ (List.getElem?_eq_getElem hj)
  obtain⟨_,_,_,_,_,_,_,_,_,_,_,hts,_⟩:=fB hc'
  have hl8:us.length=8:=by rw[H4.length g2,hts];rfl
  have hs:sz=8:=by omega
  subst hs
  have hsz:=List.sizeOf_lt_of_mem (List.getElem_mem hj)
  match us,hl8 with
  | [u0,u1,u2,u3,u4,u5,u6,u7],_=>exact⟨c',u0,u1,u2,u3,u4,u5,u6,u7,by rw[hg];exact hc',by rw[hg];omega,by rw[hg];exact g2,g3 0 _ rfl,g3 1 _ rfl,g3 2 _ rfl,g3 3 _ rfl,g3 4 _ rfl,g3 5 _ rfl,g3 6 _ rfl,g3 7 _ rfl⟩
 refine(vg 178 _ _ W (∃j,j<ks.length∧(!(RO (ks.getD j default) own).getD false)=true) (A4x 178 (enters_of Tryz.func178 (by kernel_rfl) rfl) _ b o ks.length cap (fun j i=>(W.cell? ⟨b,o+j*8+i,none⟩).getD undef) (fun j=> !(RO (ks.getD j default) own).getD false) W (hB b h6) (by unfold maxLen at h3;omega) ?_ ?_)).mono ?_
 ·intro j hj i hi
  obtain⟨c',u0,u1,u2,u3,u4,u5,u6,u7,_,_,_,e0,e1,e2,e3,e4,e5,e6,e7⟩:=hall j hj
  match i,hi with
  |0,_=>simp only[e0];rfl
  |1,_=>simp only[e1];rfl
  |2,_=>simp only[e2];rfl
  |3,_=>simp only[e3];rfl
  |4,_=>simp only[e4];rfl
  |5,_=>simp only[e5];rfl
  |6,_=>simp only[e6];rfl
  |7,_=>simp only[e7];rfl
 ·intro j hj W' hW'
  obtain⟨c',u0,u1,u2,u3,u4,u5,u6,u7,hf,hz,hv,e0,e1,e2,e3,e4,e5,e6,e7⟩:=hall j hj
  simp only[e0,e1,e2,e3,e4,e5,e6,e7,Option.getD_some,hf]
  have hb0:Below W'.heap.size W' (W'.alloc (.cells #[u0,u1,u2,u3,u4,u5,u6,u7] 45)):=(Below.refl _ W').alloc (Nat.le_refl _) _
  have hb1:=hW'.trans (hb0.mono hW'.size)
  have hup:W.heap.size≤(W'.alloc (.cells #[u0,u1,u2,u3,u4,u5,u6,u7] 45)).heap.size:=hb1.size
  have hI:=H _ own c' (W'.alloc (.cells #[u0,u1,u2,u3,u4,u5,u6,u7] 45)) B [u0,u1,u2,u3,u4,u5,u6,u7] u hz hf (fun x hx=>Nat.lt_of_lt_of_le (hB x hx) hup) (H4.same (fun _ h=>h) (fun x hx=>hb1.block x (hB x hx)) hv) ((hu.below hb1).up hup)
  refine(A8L ob u u0 u1 u2 u3 u4 u5 u6 u7 c' W' ((hW'.cell (p:=⟨ob,0,none⟩) (Nr hc)).trans hc) hI).mono ?_
  rintro e w' ⟨rfl,hb'⟩
  exact⟨rfl,hW'.trans (hb'.mono hW'.size)⟩
 ·rintro e w' ⟨⟨r,rfl,hr⟩,hb⟩
  exact⟨by rw[A00 (fun r=>(RO r own).getD false) ks r hr,hc1],hb⟩
theorem A8M {ty:TypeId} (hcat:Wb Tryz.prog 222 2 32 ty) (hsp:Pn Tryz.prog 124):∀n,A94 n:=by
 intro n
 induction n with
 |zero=>intro ts l b w B us u hn h;obtain⟨k,p,x,uu,ds,at',ks,t,d,a,c,rfl,_⟩:=fB h;simp at hn
 |succ n ih=>
  intro ts l b w B us u hsz h hB hus Pl
  obtain⟨k,p,x,uu,ds,at',ks,t,d,a,c,rfl,hd,ha,hn,hk,rfl⟩:=fB h
  clear h
  have hsk:sizeOf ks≤n:=by simp at hsz;omega
  simp only[H4]at hus
  obtain⟨_,_,rfl,rfl,_,_,_,rfl,rfl,_,_,_,rfl,rfl,_,_,_,rfl,rfl,_,vd,_,rfl,hvd,_,va,_,rfl,hva,_,vk,_,rfl,hvk,_,_,_,rfl,rfl,_,rfl⟩:=hus
  have Pd:=hvd.prl hd hB
  clear hvd hsz
  have hb0:Below w.heap.size w (w.alloc (.cells #[.int .i64 k, .string p, .string x, .string uu,vd,va,vk, .string t] 45)):=(Below.refl _ w).alloc (Nat.le_refl _) _
  have hup:w.heap.size≤(w.alloc (.cells #[.int .i64 k, .string p, .string x, .string uu,vd,va,vk, .string t] 45)).heap.size:=World.size_alloc _ _▸Nat.le_succ _
  have hin:=A1I hcat u vd l d _ ((Pl.below hb0).up hup) ((Pd.below hb0).up hup) hn
  generalize hown:l++d=own at*
  clear Pl Pd
  go_enter Tryz.func120,Tryz.ntmps120
  go_wp2_with (go_at_call 174;refine hin.mono ?_;rintro e w1 ⟨q1,c1,rfl,P1,hb1⟩)
  have hst:=AB9 (P:=Tryz.prog) (w1.alloc (.cells #[.slice q1 own.length c1] 41)) .nilFunc (.func (.func 175) #[] #[.pointer (some ⟨w1.heap.size,0,none⟩)]) 206 rfl
  rw[World.size_alloc]at hst
  rw[hst]
  clear hst hin
  have hsw:w.heap.size<w1.heap.size:=by
   have h1:=hb1.size
   rw[World.size_alloc]at h1
   omega
  have hbw:Below w.heap.size w w1:=hb0.trans (hb1.mono hup)
  have hn0:w1.heap[w.heap.size]? =some (.cells #[.int .i64 k, .string p, .string x, .string uu,vd,va,vk, .string t] 45 (0,0)):=by
   rw[hb1.block _ (World.size_alloc _ _▸Nat.lt_succ_self _)]
   show(w.heap.push _)[w.heap.size]? =_
   exact Array.getElem?_push_size
  generalize hW3:(w1.alloc (.cells #[.slice q1 own.length c1] 41)).alloc (.cells #[.func (.func 175) #[] #[.pointer (some ⟨w1.heap.size,0,none⟩)]] 206)=W3
  have hs3:W3.heap.size=w1.heap.size+2:=by rw[←hW3,World.size_alloc,World.size_alloc]
  have hb3:Below w1.heap.size w1 W3:=by rw[←hW3];exact((Below.refl _ w1).alloc (Nat.le_refl _) _).alloc (World.size_alloc _ _▸Nat.le_succ _) _
  have ho:W3.heap[w1.heap.size]? =some (.cells #[.slice q1 own.length c1] 41 (0,0)):=by
   rw[←hW3]
   show((w1.heap.push _).push _)[w1.heap.size]? =_
   rw[Array.getElem?_push,if_neg (by rw[Array.size_push];omega),Array.getElem?_push,if_pos rfl]
  have hmm:W3.heap[w1.heap.size+1]? =some (.cells #[.func (.func 175) #[] #[.pointer (some ⟨w1.heap.size,0,none⟩)]] 206 (0,0)):=by
   rw[←hW3]
   show((w1.heap.push _).push _)[w1.heap.size+1]? =_
   rw[Array.getElem?_push,if_pos (by rw[Array.size_push])]
  have hn3:W3.heap[w.heap.size]? =some (.cells #[.int .i64 k, .string p, .string x, .string uu,vd,va,vk, .string t] 45 (0,0)):=by rw[hb3.block _ hsw];exact hn0
  have hbx:Below w.heap.size w W3:=hbw.trans (hb3.mono (by omega))
  have P3:=(P1.below hb3).up hb3.size
  have hcell:∀W,Below W3.heap.size W3 W→W.cell? ⟨w.heap.size,0,none⟩=some (.int .i64 k)∧W.cell? ⟨w.heap.size,1,none⟩=some (.string p)∧W.cell? ⟨w.heap.size,3,none⟩=some (.string uu)∧W.cell? ⟨w.heap.size,5,none⟩=some (va)∧W.cell? ⟨w.heap.size,6,none⟩=some (vk):=fun W hW=>by
   have e:W.heap[w.heap.size]? =_:=(hW.block _ (by omega)).trans hn3
   simp only[World.cell?,e]
   exact⟨rfl,rfl,rfl,rfl,rfl⟩
  have hoc:∀W,Below W3.heap.size W3 W→W.cell? ⟨w1.heap.size,0,none⟩=some (.slice q1 own.length c1)∧W.cell? ⟨w1.heap.size+1,0,none⟩=some (.func (.func 175) #[] #[.pointer (some ⟨w1.heap.size,0,none⟩)]):=fun W hW=>by
   have e1:W.heap[w1.heap.size]? =_:=(hW.block _ (by omega)).trans ho
   have e2:W.heap[w1.heap.size+1]? =_:=(hW.block _ (by omega)).trans hmm
   simp only[World.cell?,e1,e2]
   exact⟨rfl,rfl⟩
  have hMe:=qQ hsp w1.heap.size (.slice q1 own.length c1) own p uu W3 (hoc W3 (Below.refl _ _)).1 P3 hn
  have hAt:∀W,Below W3.heap.size W3 W→Calls Tryz.prog 129 #[va, .func (.func 176) #[] #[.pointer (some ⟨w1.heap.size+1,0,none⟩)]] W fun e w'=>e= .returned (.bool (!a.all (dA own)))∧Below W3.heap.size W3 w':=fun W hW=>by
   have hx:=hbx.trans (hW.mono hbx.size)
   refine(A4z hsp (w1.heap.size+1) w1.heap.size (.slice q1 own.length c1) own a at' ha va W B (fun b hb=>Nat.lt_of_lt_of_le (hB b hb) hx.size) (EV.same (fun _ h=>h) (fun b hb=>hx.block b (hB b hb)) hva) (hoc W hW).2 (hoc W hW).1 ((P3.below hW).up hW.size) hn).mono ?_
   rintro e w' ⟨rfl,hb'⟩
   exact⟨rfl,hW.trans (hb'.mono hW.size)⟩
  have hKi:∀W,Below W3.heap.size W3 W→Calls Tryz.prog 177 #[vk, .func (.func 178) #[] #[.pointer (some ⟨w1.heap.size,0,none⟩)]] W fun e w'=>e= .returned (.bool (!c))∧Below W3.heap.size W3 w':=fun W hW=>by
   have hx:=hbx.trans (hW.mono hbx.size)
   refine(A50 n ih w1.heap.size (.slice q1 own.length c1) own ks c hk hsk vk W B (fun b hb=>Nat.lt_of_lt_of_le (hB b hb) hx.size) (EV.same (fun _ h=>h) (fun b hb=>hx.block b (hB b hb)) hvk) (hoc W hW).1 ((P3.below hW).up hW.size)).mono ?_
   rintro e w' ⟨rfl,hb'⟩
   exact⟨rfl,hW.trans (hb'.mono hW.size)⟩
  obtain⟨c0,c1',c3,c5,c6⟩:=hcell W3 (Below.refl _ _)
  have m3:=(hoc W3 (Below.refl _ _)).2
  have hr3:Below W3.heap.size W3 W3:=Below.refl _ _
  clear hW3 hn0 hn3 ho hmm hb3 P1 hb1 hb0 hva hvk
  generalize hme:Uy own p uu=me at hMe
  generalize hat1:a.all (dA own)=at1 at hAt
  go_wp2_with (first
   |(go_at_call 175;refine hMe.mono ?_;rintro e w4 ⟨rfl,hb4⟩;obtain⟨d0,d1,d3,d5,d6⟩:=hcell w4 hb4)
   |(go_at_call 129;refine(hAt _ (by assumption)).mono ?_;rintro e w5 ⟨rfl,hb5⟩;obtain⟨f0,f1,f3,f5,f6⟩:=hcell w5 hb5)
   |(go_at_call 177;refine(hKi _ (by assumption)).mono ?_;rintro e w6 ⟨rfl,hb6⟩))
  all_goals (go_ret;refine⟨?_,hbx.trans (Below.mono (by assumption) hbx.size)⟩;rw[hme,hat1])
  all_goals simp_all
theorem A51 {ty:TypeId} (hcat:Wb Tryz.prog 222 2 32 ty) (hsp:Pn Tryz.prog 124):zz Tryz.prog 120:=fun ts l b w B us rows u h hB hus hr hu=>A8M hcat hsp (sizeOf ts) ts l b w B us u (Nat.le_refl _) h hB hus (hu.prl hr hB)
end TT
