import Derived.Test.YtpmnlfgdicmiiaaGreatDoorTHX4
import Derived.RangeFuncBox
import Derived.RangeFuncLeaves
import Derived.RangeFuncOwn
import Derived.RangeFuncNested
import Derived.CallsIn
import Derived.RegionIn
import Derived.Lib.Strings
import Derived.Shelf.Abstract
import Derived.WalkKit
import Derived.OwnWalkIn
import Derived.TacticsInMore
import Derived.LoopNIn
import Derived.LoopIn
import Derived.Test.YtpmnlfgdicmiiaaGreatDoorProg
import Derived.KernelRfl
set_option linter.unusedVariables false
set_option linter.unusedSimpArgs false
namespace TT
open Go Go.Proofs Go.RowKit Go.Shelf
attribute [local go_sem] Oper.semAt_some
theorem ve (len k:Nat):dnn len (k+1)=dnn len k++[len-1-k]:=by simp[dnn,List.range_succ]
theorem A8I (len k:Nat):(dnn len k).length=k:=by simp[dnn]
set_option maxRecDepth 100000 in
set_option maxHeartbeats 2000000 in
theorem A4s (F:Fence) (n:Nat) (h7:F.fn 228) (hro:F.round=none) (hn:1≤n) (l Bs n₀ b off len cap:Nat) (u:Nat→Nat→Value) (hreach:len≤1000000000000) (hb:b<n₀) (hBn:Bs<n₀) (J Jx:List Nat→World→Prop)
  (hY:∀pre j W,J pre W→pre.length<len→YieldAt F (n-1) Tryz.prog l #[.int .i64 (j:Nat), .agg #[u j 0,u j 1]] W fun e W'=>
    (e= .returned (.bool true)∧J (pre++[j]) W'∧Below n₀ W W')∨(e= .returned (.bool false)∧Jx (pre++[j]) W'))
  (W:World) (hBs:W.cell? ⟨Bs,0,none⟩=some (.slice (some ⟨b,off,none⟩) len cap)) (hc:∀j,j<len→W.cell? ⟨b,off+j*2,none⟩=some (u j 0)∧W.cell? ⟨b,off+j*2+1,none⟩=some (u j 1)) (h0:J [] W):
  CallsIn F n Tryz.prog 228 #[.func (.yield l) #[] #[], .pointer (some ⟨Bs,0,none⟩)] W fun e W'=>(∃v,e= .returned v)∧
   ((∃ys,ys=dnn len len∧J ys W')∨(∃pre,(∃k,k≤len∧pre=dnn len k)∧Jx pre W')):=by
 refine callsIn_of_wp Tryz.func228 rfl h7 ?_ hro
 simp only[Tryz.ntmps228,List.size_toArray,List.length_cons,List.length_nil,Nat.reduceAdd,Nat.reduceSub,Array.replicate_succ,Array.replicate_zero,List.push_toArray,List.append_toArray,List.nil_append,List.cons_append]
 have w0:wrap64 ((len:Int)-1)=(len:Int)-1:=by unfold wrap64;omega
 gi_wp2
 gi_loopw [3] (fun i wr=>∃k:Nat,k≤len∧i= .int .i64 ((len:Int)-1-k)∧J (dnn len k) wr∧Below n₀ W wr)
  (fun i _=>(intOf i+1).toNat)
 case atStart=>exact⟨0,Nat.zero_le _,by simp,h0,Below.refl _ _⟩
 case round=>
  obtain⟨k,hk,rfl,hJs,hnx⟩:=hrel
  have hBs':wr.cell? ⟨Bs,0,none⟩=some (.slice (some ⟨b,off,none⟩) len cap):=(hnx.cell (p:=⟨Bs,0,none⟩) hBn).trans hBs
  by_cases hlt:k<len
  ·obtain⟨j,hj⟩:∃j:Nat,(len:Int)-1-k=j:=⟨len-1-k,by omega⟩
   have hjn:len-1-k=j:=by omega
   have hjl:j<len:=by omega
   obtain⟨x0,x1⟩:=hc j hjl
   have y0:wr.cell? ⟨b,off+j*2,none⟩=some (u j 0):=(hnx.cell (p:=⟨b,off+j*2,none⟩) hb).trans x0
   have y1:wr.cell? ⟨b,off+j*2+1,none⟩=some (u j 1):=(hnx.cell (p:=⟨b,off+j*2+1,none⟩) hb).trans x1
   obtain⟨fn,tmps,assign,body,hy,hR⟩:=hY _ j wr hJs (by rw[A8I];exact hlt)
   rw[hj]
   have w1:wrap64 ((j:Int)-1)=(j:Int)-1:=by unfold wrap64;omega
   have p1:(0:Int)≤(j:Int):=by omega
   have p2:(j:Int)<(len:Int):=by omega
   gi_wp2
   refine hR.mono ?_
   rintro e W3 (⟨rfl,hJ3,hk3⟩|⟨rfl,hJx3⟩)
   ·gi_wp2
    go_roundw
    case rel=>exact⟨k+1,by omega,by first|(congr 1;omega)|(simp;omega),by rw[ve,hjn];exact hJ3,hnx.trans hk3⟩
    case measure=>first|(simp[intOf];done)|(simp[intOf];omega)
   ·gi_wp2
    refine bodyPost_ret (results_none rfl _ _ _) rfl ?_
    exact⟨⟨_,rfl⟩, .inr ⟨_,⟨k+1,by omega,by rw[ve,hjn]⟩,hJx3⟩⟩
  ·obtain rfl:k=len:=by omega
   gi_wp2
   go_end0
   exact⟨⟨_,rfl⟩, .inl ⟨_,rfl,hJs⟩⟩
set_option maxRecDepth 100000 in
set_option maxHeartbeats 1000000 in
theorem sF (F:Fence) (n:Nat) (h7:F.fn 228) (hro:F.round=none) (l Bs:Nat) (q:Option Addr) (cap:Nat) (J:List Nat→World→Prop) (W:World) (hBs:W.cell? ⟨Bs,0,none⟩=some (.slice q 0 cap)) (h0:J [] W):
  CallsIn F n Tryz.prog 228 #[.func (.yield l) #[] #[], .pointer (some ⟨Bs,0,none⟩)] W fun e W'=>(∃v,e= .returned v)∧J [] W':=by
 refine callsIn_of_wp Tryz.func228 rfl h7 ?_ hro
 simp only[Tryz.ntmps228,List.size_toArray,List.length_cons,List.length_nil,Nat.reduceAdd,Nat.reduceSub,Array.replicate_succ,Array.replicate_zero,List.push_toArray,List.append_toArray,List.nil_append,List.cons_append]
 gi_wp2
 gi_loopw [3] (fun i wr=>i= .int .i64 (-1)∧J [] wr) (fun _ _=>0)
 case atStart=>exact⟨rfl,h0⟩
 case round=>
  obtain⟨rfl,hJs⟩:=hrel
  gi_wp2
  go_end0
  exact⟨⟨_,rfl⟩,hJs⟩
set_option maxHeartbeats 1000000 in
theorem A8J (F:Fence) (n:Nat) (h5:F.fn 184) (hro:F.round=none) (a:Option Addr) (len cap:Nat) (w:World):
  CallsIn F n Tryz.prog 184 #[.slice a len cap] w fun e w'=>e= .returned (.func (.func 228) #[] #[.pointer (some ⟨w.heap.size,0,none⟩)])∧w'=w.alloc (.cells #[.slice a len cap] 41):=by
 refine callsIn_of_wp Tryz.func184 rfl h5 ?_ hro
 simp only[Tryz.ntmps184,List.size_toArray,List.length_cons,List.length_nil,Nat.reduceAdd,Nat.reduceSub,Array.replicate_succ,Array.replicate_zero,List.push_toArray,List.append_toArray,List.nil_append,List.cons_append]
 gi_wp2
 go_ret
 exact⟨rfl,rfl⟩
theorem Prs.below {n₀:Nat} {X Y:World} (h:Below n₀ X Y) {sv:Value} {len:Nat} {u:Nat→Nat→Value}:Prs n₀ X sv len u→Prs n₀ Y sv len u
 | .inl e=> .inl e
 | .inr ⟨b,off,cap,e,hb,hc⟩=> .inr ⟨b,off,cap,e,hb,fun j hj=>⟨(h.cell (p:=⟨b,off+j*2,none⟩) hb).trans (hc j hj).1,(h.cell (p:=⟨b,off+j*2+1,none⟩) hb).trans (hc j hj).2⟩⟩
theorem Prs.up {n n':Nat} (h:n≤n') {W:World} {sv:Value} {len:Nat} {u:Nat→Nat→Value}:Prs n W sv len u→Prs n' W sv len u
 | .inl e=> .inl e
 | .inr ⟨b,off,cap,e,hb,hc⟩=> .inr ⟨b,off,cap,e,by omega,hc⟩
set_option maxRecDepth 100000 in
theorem yp (F:Fence) (n:Nat) (h7:F.fn 228) (hro:F.round=none) (hn:1≤n) (Bs n₀:Nat) (sv:Value) (len:Nat) (u:Nat→Nat→Value) (hreach:len≤1000000000000) (w:World) (hBs:Bs<n₀) (hn₀:n₀≤w.heap.size)
  (hc:w.cell? ⟨Bs,0,none⟩=some sv) (hI:Prs n₀ w sv len u):
  SeqStopsK F n Tryz.prog 228 #[.pointer (some ⟨Bs,0,none⟩)] (fun j:Nat=> #[Value.int .i64 j,Value.agg #[u j 0,u j 1]]) (Below n₀) (fun ys=>ys=dnn len len) (fun pre=>∃k,k≤len∧pre=dnn len k) len w:=fun l J Jx W hW _ _ hY h0=>by
 have hc':=((hW.mono hn₀).cell (p:=⟨Bs,0,none⟩) hBs).trans hc
 rcases hI.below (hW.mono hn₀)with ⟨rfl,q,cap,rfl⟩|⟨b,off,cap,rfl,hb,hcs⟩
 ·exact(sF F n h7 hro l Bs q cap J W hc' h0).mono fun e W' ⟨he,hj⟩=>⟨he, .inl ⟨_,rfl,hj⟩⟩
 ·refine(A4s F n h7 hro hn l Bs n₀ b off len cap u hreach hb hBs J Jx hY W hc' hcs h0).mono ?_
  rintro e W' ⟨he,⟨ys,rfl,hj⟩|⟨pre,⟨k,hk,rfl⟩,hj⟩⟩
  ·exact⟨he, .inl ⟨_,rfl,hj⟩⟩
  ·exact⟨he, .inr ⟨_,⟨k,hk,rfl⟩,hj⟩⟩
theorem A4t {x y:ByteArray} (h:x.toList=y.toList):x=y:=by
 rw[Lib.toList_data,Lib.toList_data]at h
 cases x;cases y;congr 1;exact Array.toList_inj.1 h
theorem AB6 {P:Program} (W:World) (x0 x1 y0 y1:Value) (t:TypeId) (h0:y0.oneCell'=true) (h1:y1.oneCell'=true):((Sem.run P (store ⟨W.heap.size,0,none⟩ y0) (W.alloc (.cells #[x0,x1] t))).andThen fun _ w'=>Sem.run P (store ⟨W.heap.size,1,none⟩ y1) w')= .ok () (W.alloc (.cells #[y0,y1] t)):=by
 have e:(W.alloc (.cells #[x0,x1] t)).heap[W.heap.size]? =some (.cells #[x0,x1] t (0,0)):=World.alloc_heap_new W _
 obtain⟨W1,hW1⟩:∃W1,W.alloc (.cells #[x0,x1] t)=W1:=⟨_,rfl⟩
 have hh:(W.alloc (.cells #[y0,y1] t))=(W1.setCell ⟨W.heap.size,0,none⟩ y0).setCell ⟨W.heap.size,1,none⟩ y1:=by
  rw[←hW1]
  simp only[World.alloc,World.setCell]
  congr 1
  apply Array.ext_getElem?
  intro i
  simp only[Array.getElem?_modify,Array.getElem?_push]
  by_cases hi:i=W.heap.size
  ·subst hi;simp
  ·simp[hi,Ne.symm hi]
 rw[hW1]at e ⊢
 have c0:W1.cell? ⟨W.heap.size,0,none⟩=some x0:=by simp[World.cell?,e]
 have c1:W1.cell? ⟨W.heap.size,1,none⟩=some x1:=by simp[World.cell?,e]
 have f0:W1.frozen? ⟨W.heap.size,0,none⟩=false:=by simp[World.frozen?,e]
 have f1:W1.frozen? ⟨W.heap.size,1,none⟩=false:=by simp[World.frozen?,e]
 rw[hh,run_store P _ _ _ _ h0]
 have c1':(W1.setCell ⟨W.heap.size,0,none⟩ y0).cell? ⟨W.heap.size,1,none⟩=some x1:=by rw[World.cell?_setCell_other _ _ _ _ (by simp)];exact c1
 simp[c0,f0,f1,c1',run_store P _ _ _ _ h1]
set_option maxRecDepth 100000 in
set_option maxHeartbeats 4000000 in
theorem A4u (F:Fence) (n:Nat) (h3:F.fn 124) (h4:F.fn 184) (h5:F.fn 228) (hro:F.round=none) (hn:3≤n) (sv:Value) (q:Option Addr) (len cap:Nat) (hsv:sv= .slice q len cap) (a c:Nat→ByteArray) (p:ByteArray) (hreach:len≤1000000000000) (w:World) (hI:Prs w.heap.size w sv len (uu a c)):
  CallsIn F n Tryz.prog 124 #[sv, .string p] w fun e W'=>e= .returned (.tuple #[.string (Ux len a c p).1, .bool (Ux len a c p).2])∧Below w.heap.size w W':=by
 have h1:1≤n:=by omega
 subst hsv
 refine callsIn_of_wp_marks Tryz.func124 rfl h3 ?_ hro
 simp only[Tryz.ntmps124,List.size_toArray,List.length_cons,List.length_nil,Nat.reduceAdd,Nat.reduceSub,Array.replicate_succ,Array.replicate_zero,List.push_toArray,List.append_toArray,List.nil_append,List.cons_append]
 gi_wp2_with (gi_at_call 184;refine(A8J F (n-1) h4 hro _ _ _ _).mono ?_;rintro e w' ⟨rfl,rfl⟩)
 obtain⟨N,hN⟩:∃N,w.heap.size=N:=⟨_,rfl⟩
 rw[hN]at hI ⊢
 obtain⟨W0,hW0⟩:∃W0,((((w.alloc (.cells #[.string p] 9)).alloc (.cells #[.string ⟨#[]⟩] 9)).alloc (.cells #[.bool false] 4)).alloc (.cells #[.slice q len cap] 41))=W0:=⟨_,rfl⟩
 have hs0:W0.heap.size=N+4:=by rw[←hW0];simp[hN]
 have b0:Boxed W0 N 9 (.string p):=by rw[←hW0,←hN];exact(((Boxed.new w 9 _).alloc _).alloc _).alloc _
 have b1:Boxed W0 (N+1) 9 (.string ⟨#[]⟩):=by
  have:=((Boxed.new (w.alloc (.cells #[.string p] 9)) 9 (.string ⟨#[]⟩)).alloc (.cells #[.bool false] 4)).alloc (.cells #[.slice q len cap] 41)
  rw[hW0,World.size_alloc,hN]at this;exact this
 have b2:Boxed W0 (N+1+1) 4 (.bool false):=by
  have:=(Boxed.new ((w.alloc (.cells #[.string p] 9)).alloc (.cells #[.string ⟨#[]⟩] 9)) 4 (.bool false)).alloc (.cells #[.slice q len cap] 41)
  rw[hW0,World.size_alloc,World.size_alloc,hN]at this;exact this
 have b3:Boxed W0 (N+1+1+1) 41 (.slice q len cap):=by
  have:=Boxed.new (((w.alloc (.cells #[.string p] 9)).alloc (.cells #[.string ⟨#[]⟩] 9)).alloc (.cells #[.bool false] 4)) 41 (.slice q len cap)
  rw[hW0,World.size_alloc,World.size_alloc,World.size_alloc,hN]at this;exact this
 have hB0:Below N w W0:=by rw[←hW0];exact((((Below.refl _ w).alloc (by omega) _).alloc (by simp;omega) _).alloc (by simp;omega) _).alloc (by simp;omega) _
 rw[hW0]
 refine wpIn_rangeFunc_ownH hro h1 (gf:=228) (lb:= #[.pointer (some ⟨N+1+1+1,0,none⟩)]) rfl h5 (enters_of Tryz.func228 (by kernel_rfl) rfl)
  (yp F (n-1) h5 hro (by omega) (N+1+1+1) (N+4) (.slice q len cap) len (uu a c) hreach W0 (by omega) (by omega) b3.cell ((hI.below hB0).up (by omega))) belowK_t (belowK_b (by omega)) (Below.refl _ _) (fun _=>rfl)
  (fun pre W=>(N+4≤W.heap.size∧∀j∈pre,a j≠p)∧Boxed W N 9 (.string p)∧Boxed W (N+1) 9 (.string ⟨#[]⟩)∧Boxed W (N+1+1) 4 (.bool false)∧Below N w W)
  (fun cc pre W=>cc= .ret∧(∃pre' j,pre=pre'++[j]∧(∀i∈pre',a i≠p)∧a j=p∧Boxed W (N+1) 9 (.string (c j)))∧Boxed W (N+1+1) 4 (.bool true)∧Below N w W)
  ?hi ?hix ⟨⟨by omega,by simp⟩,b0,b1,b2,hB0⟩
  (fun x a' W=>∃B,N+4≤B∧W.heap[B]? =some (.cells #[.string (a x), .string (c x)] 106 (0,0))∧a'={ tmps:= #[.slice q len cap, .string p,undef, .pointer (some ⟨N,0,none⟩), .pointer (some ⟨N+1,0,none⟩), .pointer (some ⟨N+1+1,0,none⟩),undef, .pointer (some ⟨B,0,none⟩), .slice q len cap, .func (.func 228) #[] #[.pointer (some ⟨N+1+1+1,0,none⟩)], .int .i64 (x:Nat), .agg #[.string (a x), .string (c x)],undef,undef,undef,undef,undef,undef,undef,undef],defers:=[] })
  ?hax ?assign ?body ?done ?stop
 case hi=>
  rintro s X Y row ⟨g1,g2,g3,g4,g5⟩ hg hr
  have ne:∀k,k<N+4→some k≠row:=fun k hk e=>by have:=(hr k e.symm).1;omega
  exact⟨⟨Nat.le_trans g1.1 hg.size,g1.2⟩,g2.kept hg (ne _ (by omega)),g3.kept hg (ne _ (by omega)),g4.kept hg (ne _ (by omega)),ownFrom_below (β:=Unit) (B:=N+4) (by omega) (by omega) () X Y row g5 hg (fun r e=>by have:=hr r e;exact⟨by omega,this.2⟩)⟩
 case hix=>
  rintro cc s X Y row ⟨g1,⟨pre',j,e1,e2,e3,g3⟩,g4,g5⟩ hg hr
  have ne:∀k,k<N+4→some k≠row:=fun k hk e=>by have:=(hr k e.symm).1;omega
  exact⟨g1,⟨pre',j,e1,e2,e3,g3.kept hg (ne _ (by omega))⟩,g4.kept hg (ne _ (by omega)),ownFrom_below (β:=Unit) (B:=N+4) (by omega) (by omega) () X Y row g5 hg (fun r e=>by have:=hr r e;exact⟨by omega,this.2⟩)⟩
 case hax=>
  rintro x a' s X Y row ⟨B,g1,g2,g3⟩ hg hr
  refine⟨B,g1,(hg.block B (Array.getElem?_eq_some_iff.1 g2).1 (fun e=> ?_)).trans g2,g3⟩
  obtain⟨_,o,ho,hc⟩:=hr B e.symm
  rw[g2]at ho;cases ho;cases hc
 case assign=>
  intro l pre x W K hi hK
  have v0:uu a c x 0= .string (a x):=rfl
  have v1:uu a c x 1= .string (c x):=rfl
  rw[v0,v1]
  have hst:((Sem.run Tryz.prog (store ⟨W.heap.size,0,none⟩ (.string (a x))) (W.alloc (.cells #[.string ⟨#[]⟩, .string ⟨#[]⟩] 106))).andThen fun _ w'=>Sem.run Tryz.prog (store ⟨W.heap.size,1,none⟩ (.string (c x))) w')= .ok () (W.alloc (.cells #[.string (a x), .string (c x)] 106)):=AB6 W _ _ _ _ 106 rfl rfl
  gi_wp2
  obtain⟨⟨hsz,hp⟩,g2,g3,g4,g5⟩:=hi
  exact hK _ _ (KeepsFrom.of_grownBy (World.grownBy_alloc W _ none) (fun j e=>by cases e)) ((Below.refl _ W).alloc (by omega) _) ⟨⟨by simp;omega,hp⟩,g2.alloc _,g3.alloc _,g4.alloc _,g5.alloc (by omega) _⟩ ⟨W.heap.size,by omega,World.alloc_heap_new W _,rfl⟩
 case body=>
  rintro l pre x a' W hl ⟨r,hlr⟩ ⟨⟨hsz,hp⟩,g2,g3,g4,g5⟩ ⟨B,k1,k2,rfl⟩ hlt
  have c2:=g2.cell
  have c3:=g3.cell
  have c4:=g4.cell
  have f3:=g3.frozen
  have f4:=g4.frozen
  have d0:W.cell? ⟨B,0,none⟩=some (.string (a x)):=by simp[World.cell?,k2]
  have d1:W.cell? ⟨B,1,none⟩=some (.string (c x)):=by simp[World.cell?,k2]
  gi_wp2
  ·rename_i hx
   have hxp:a x=p:=A4t (eq_of_beq hx)
   exact⟨((KeepsOthers.setCell _ _ _).from _).trans ((KeepsOthers.setCell _ _ _).from _),rfl,⟨pre,x,rfl,hp,hxp,(g3.set _).other (by omega) _⟩,(g4.other (by omega) _).set _,(g5.setCell (by show N≤N+1;omega) _).setCell (by show N≤N+1+1;omega) _⟩
  ·rename_i hx
   have hxp:a x≠p:=fun e=>by rw[e]at hx;simp at hx
   exact⟨KeepsFrom.refl _ _,Below.refl _ _,⟨hsz,fun j hj=>by rcases List.mem_append.1 hj with h|h;exact hp j h;simp at h;rw[h];exact hxp⟩,g2,g3,g4,g5⟩
 case done=>
  rintro D ys W hD rfl ⟨⟨hsz,hp⟩,g2,g3,g4,g5⟩ hK
  have c2:=g2.cell
  have c3:=g3.cell
  have c4:=g4.cell
  have f3:=g3.frozen
  have f4:=g4.frozen
  have mixed:Tryz.prog.follows .mixedOrders=true:=by kernel_rfl
  gi_wp2
  have hsp:Ux len a c p=(⟨#[]⟩,p.toList.isEmpty):=by
   rw[Ux,List.find?_eq_none.2 (fun i hi=>by simpa using hp i hi)]
   show((⟨#[]⟩:ByteArray),decide (p=⟨#[]⟩))=_
   congr 1
   rw[Bool.eq_iff_iff,decide_eq_true_iff,List.isEmpty_iff]
   constructor
   ·intro e;rw[e,Lib.toList_data]
   ·intro e;exact A4t (by rw[e,Lib.toList_data])
  have hK2:(((W.setCell ⟨N+1,0,none⟩ (.string ⟨#[]⟩)).setCell ⟨N+1+1,0,none⟩ (.bool p.toList.isEmpty)).drew).heap[D]? =some (.deferred (some [])):=by
   show((W.setCell _ _).setCell _ _).heap[D]? =_
   rw[Below.heap_setCell _ _ _ _ (by show D≠N+1+1;omega),Below.heap_setCell _ _ _ _ (by show D≠N+1;omega)];exact hK
  have g3':Boxed (((W.setCell ⟨N+1,0,none⟩ (.string ⟨#[]⟩)).setCell ⟨N+1+1,0,none⟩ (.bool p.toList.isEmpty)).drew) (N+1) 9 (.string ⟨#[]⟩):=(g3.set _).other (by omega) _
  have g4':Boxed (((W.setCell ⟨N+1,0,none⟩ (.string ⟨#[]⟩)).setCell ⟨N+1+1,0,none⟩ (.bool p.toList.isEmpty)).drew) (N+1+1) 4 (.bool p.toList.isEmpty):=(g4.other (by omega) _).set _
  have h3':=(g3'.kept (grownBy_putObj' _ D (.deferred none)) (by intro e;cases e;omega)).cell
  have h4':=(g4'.kept (grownBy_putObj' _ D (.deferred none)) (by intro e;cases e;omega)).cell
  have hB2:Below w.heap.size w ((((W.setCell ⟨N+1,0,none⟩ (.string ⟨#[]⟩)).setCell ⟨N+1+1,0,none⟩ (.bool p.toList.isEmpty)).drew).putObj D (.deferred none)):=by
   rw[hN]
   have:=g5.size
   exact(((g5.setCell (by show N≤N+1;omega) _).setCell (by show N≤N+1+1;omega) _).drew).grown (grownBy_putObj' _ D _) (by simp[World.setCell,World.drew];omega) (fun r e=>by cases e;omega)
  gi_region
  all_goals gi_wp2
  all_goals (refine⟨by simp, .inl ⟨_,_,rfl,run_takeDeferred hK2, ?_⟩⟩;refine⟨.tuple #[.string ⟨#[]⟩, .bool p.toList.isEmpty],by simp[results,Tryz.f124,go_sem,h3',h4'],by rw[hsp],hB2⟩)
 case stop=>
  rintro D cc pre W hD ⟨k,hk,hpre⟩ ⟨rfl,⟨pre',j,e1,e2,e3,g3⟩,g4,g5⟩ hK
  gi_wp2
  refine⟨by simp, .inl ⟨_,_,rfl,run_takeDeferred hK, ?_⟩⟩
  have n1:N+1≠D:=by omega
  have n2:N+1+1≠D:=by omega
  have h3':=(g3.kept (grownBy_putObj' W D (.deferred none)) (by intro e;cases e;exact n1 rfl)).cell
  have h4':=(g4.kept (grownBy_putObj' W D (.deferred none)) (by intro e;cases e;exact n2 rfl)).cell
  have hsp:Ux len a c p=(c j,true):=by
   have hd:∃rest,dnn len len=dnn len k++rest:=⟨(dnn len len).drop k,by rw[show dnn len k=(dnn len len).take k by simp[dnn,←List.map_take,List.take_range,Nat.min_eq_left hk],List.take_append_drop]⟩
   obtain⟨rest,hd⟩:=hd
   have hf:(dnn len len).find? (fun j=>decide (a j=p))=some j:=by
    rw[hd,←hpre,e1,List.append_assoc,List.find?_append,List.find?_eq_none.2 (fun i hi=>by simpa using e2 i hi)]
    simp[e3]
   rw[Ux,hf]
  refine⟨.tuple #[.string (c j), .bool true], ?_,by rw[hsp], ?_⟩
  ·simp[results,Tryz.f124,go_sem,h3',h4']
  ·rw[hN];exact g5.trans ((Below.refl _ W).grown (grownBy_putObj' W D _) (by have:=g5.size;omega) (fun r e=>by cases e;omega))
theorem km : Pn Tryz.prog 124:=fun q len cap a c p w hn hI=>(callsIn_wide (n:=3)).1 (A4u Fence.wide 3 trivial trivial trivial rfl (by omega) _ q len cap rfl a c p hn w hI)
end TT
