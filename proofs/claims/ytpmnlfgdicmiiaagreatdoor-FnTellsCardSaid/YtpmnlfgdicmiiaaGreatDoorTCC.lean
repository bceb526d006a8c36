import Derived.Test.YtpmnlfgdicmiiaaGreatDoorTHX4
import Derived.Shelf.Spec.SlicesGrow
import Derived.Deep.LoopGhost
import Derived.Deep.DeepFit
import Derived.Test.YtpmnlfgdicmiiaaGreatDoorProg
import Derived.KernelRfl
set_option linter.unusedVariables false
set_option linter.unusedSimpArgs false
namespace TT
open Go Go.Proofs Go.Shelf Go.RowKit Go.Lib
set_option maxRecDepth 1000000 in
theorem gp {ρ:Ren} (L:Lays8.n4 Tryz.prog ρ) (hf4:ρ.f 4=193) (ht25:ρ.t 25=3) {i0:TypeInfo} {z:Value} (hi0:Tryz.prog.info? 3=some i0) (hz0:i0.zero=some z) (hs:0<i0.size) (hzc:z.cells.size=i0.size) (n:Nat) (w:World) (h0:0<n) (hb:n*i0.bytes≤140737488351232) (hn:n≤1000000000000):
  Calls Tryz.prog 193 #[.slice none 0 0, .int .i64 n] w fun e w'=>∃G cur,e= .returned (.slice (some ⟨w.heap.size,0,none⟩) 0 G)∧w'.heap[w.heap.size]? =some (.cells cur 3 (0,0))∧cur.size=G*i0.size∧n≤G∧G≤maxLen∧Below w.heap.size w w':=by
 have h:=Any8.slices_Grow_grow L i0 z (by rw[ht25];exact hi0) hz0 hs none 0 0 n [] w (by omega) (by omega) (by rw[Nat.zero_add];omega) (by omega) (by simp) (fun _=>rfl) (fun a h=>by cases h)
 rw[hf4,ht25]at h
 refine h.mono ?_
 rintro e w' ⟨rfl,rfl⟩
 have hge:=grownCap_ge w (0+n) 0 3
 have hle:=grownCap_le_maxLen w (0+n) 0 3 (by unfold maxLen;omega)
 refine⟨_,_,rfl,by show(w.heap.push _)[w.heap.size]? =_;exact Array.getElem?_push_size, ?_,by omega,hle,(Below.refl _ w).drew.alloc (Nat.le_refl _) _⟩
 simp only[Array.size_append,size_zeroCells,hzc,List.size_toArray,List.length_nil]
 rw[Nat.zero_add,←Nat.add_mul]
 congr 1
 omega
set_option maxHeartbeats 4000000 in
set_option maxRecDepth 1000000 in
theorem vc {ρ:Ren} (L:Lays8.n4 Tryz.prog ρ) (hf4:ρ.f 4=193) (ht25:ρ.t 25=3) {i0:TypeInfo} {z:Value} (hi0:Tryz.prog.info? 3=some i0) (hz0:i0.zero=some z) (hs:0<i0.size) (hzc:z.cells.size=i0.size)
  (sb so sc:Nat) (q1 q2:Option Addr) (n1 c1 n2 c2:Nat) (us1 us2:List Value) (w:World)
  (hs1:w.cell? ⟨sb,so,none⟩=some (.slice q1 n1 c1)) (hs2:w.cell? ⟨sb,so+1,none⟩=some (.slice q2 n2 c2)) (hbig:(n1+n2)*i0.bytes≤140737488351232) (hn:n1+n2≤1000000000000)
  (hl1:us1.length=n1*i0.size) (hl2:us2.length=n2*i0.size) (ho1:∀u∈us1,u.oneCell'=true) (ho2:∀u∈us2,u.oneCell'=true)
  (hq1:n1=0∨∃b o,q1=some ⟨b,o,none⟩∧b<w.heap.size∧∀(j:Nat) u,us1[j]? =some u→w.cell? ⟨b,o+j,none⟩=some u)
  (hq2:n2=0∨∃b o,q2=some ⟨b,o,none⟩∧b<w.heap.size∧∀(j:Nat) u,us2[j]? =some u→w.cell? ⟨b,o+j,none⟩=some u):
  Calls Tryz.prog 134 #[.slice (some ⟨sb,so,none⟩) 2 sc] w fun e w'=>(n1+n2=0∧e= .returned (.slice none 0 0)∧w'=w)∨
   (0<n1+n2∧∃G cur,e= .returned (.slice (some ⟨w.heap.size,0,none⟩) (n1+n2) G)∧w'.heap[w.heap.size]? =some (.cells cur 3 (0,0))∧cur.size=G*i0.size∧n1+n2≤G∧G≤maxLen∧cur.toList.take ((n1+n2)*i0.size)=us1++us2∧Below w.heap.size w w'):=by
 have mixed:Tryz.prog.follows .mixedOrders=true:=by kernel_rfl
 have tS:Tryz.prog.underlying 71=some (.slice 3):=by kernel_rfl
 have Hq1:Aside (n1=0∨∃b o,q1=some ⟨b,o,none⟩∧b<w.heap.size∧∀(j:Nat) u,us1[j]? =some u→w.cell? ⟨b,o+j,none⟩=some u):=hq1
 have Hq2:Aside (n2=0∨∃b o,q2=some ⟨b,o,none⟩∧b<w.heap.size∧∀(j:Nat) u,us2[j]? =some u→w.cell? ⟨b,o+j,none⟩=some u):=hq2
 have Ho1:Aside (∀u∈us1,u.oneCell'=true):=ho1
 have Ho2:Aside (∀u∈us2,u.oneCell'=true):=ho2
 clear hq1 hq2 ho1 ho2
 go_enter Tryz.func134,Tryz.ntmps134
 go_wp2
 go_loopg [3,11] 2 (fun g s3 s11 wx=>wx=w∧((g=2∧s3= .int .i64 0∧s11= .int .i64 0)∨(g=1∧s3= .int .i64 n1∧s11= .int .i64 1)∨(g=0∧s3= .int .i64 ((n1:Int)+(n2:Int))∧s11= .int .i64 2)))
 case atStart=>exact⟨rfl, .inl ⟨rfl,rfl,rfl⟩⟩
 case round=>
  obtain⟨hw,hrel⟩:=hrel
  replace hw:=hw.symm
  subst hw
  obtain⟨rfl,rfl,rfl⟩|⟨rfl,rfl,rfl⟩|⟨rfl,rfl,rfl⟩:=hrel
  ·have d1:¬((n1:Int)<0):=by omega
   go_wp2
   go_roundg 1
   case measure=>omega
   case rel=>exact⟨rfl, .inr (.inl ⟨rfl,rfl,rfl⟩)⟩
  ·have d1:¬((n1:Int)+(n2:Int)<0):=by omega
   have d2:wrap64 ((n1:Int)+(n2:Int))=(n1:Int)+(n2:Int):=by unfold wrap64;omega
   go_wp2
   go_roundg 0
   case measure=>omega
   case rel=>exact⟨rfl, .inr (.inr ⟨rfl,rfl,rfl⟩)⟩
  ·by_cases hz:n1+n2=0
   ·obtain rfl:n1=0:=by omega
    obtain rfl:n2=0:=by omega
    have cG:Calls Tryz.prog 193 #[.slice none 0 0, .int .i64 0] w fun e w'=>e= .returned (.slice none 0 0)∧w'=w:=by
     have h:=Any8.slices_Grow_room L none 0 0 0 w (by omega) (by omega) (by omega) (by omega)
     rw[hf4]at h
     exact h
    have r1:∀ty,(Builtin.append_ #[71,71] ty #[.slice none 0 0, .slice q1 0 c1]).run Tryz.prog w= .ok (.slice none 0 0) w:=fun ty=>Ls tS hi0 (by omega)
    have r2:∀ty,(Builtin.append_ #[71,71] ty #[.slice none 0 0, .slice q2 0 c2]).run Tryz.prog w= .ok (.slice none 0 0) w:=fun ty=>Ls tS hi0 (by omega)
    go_wp2_with (refine cG.mono ?_;rintro e W' ⟨rfl,hE⟩;replace hE:=hE.symm;subst hE)
    go_loopg [6,27] 2 (fun g s6 s27 wx=>wx=w∧s6= .slice none 0 0∧((g=2∧s27= .int .i64 0)∨(g=1∧s27= .int .i64 1)∨(g=0∧s27= .int .i64 2)))
    case atStart=>exact⟨rfl,rfl, .inl ⟨rfl,rfl⟩⟩
    case round=>
     obtain⟨rfl,rfl,⟨rfl,rfl⟩|⟨rfl,rfl⟩|⟨rfl,rfl⟩⟩:=hrel
     ·go_wp2_with (at_builtin;refine Lib.wpList_append_run _ rfl _ _ _ _ rfl _ _ rfl rfl _ _ (r1 _) ?_)
      go_roundg 1
      case measure=>omega
      case rel=>exact⟨rfl,rfl, .inr (.inl ⟨rfl,rfl⟩)⟩
     ·go_wp2_with (at_builtin;refine Lib.wpList_append_run _ rfl _ _ _ _ rfl _ _ rfl rfl _ _ (r2 _) ?_)
      go_roundg 0
      case measure=>omega
      case rel=>exact⟨rfl,rfl, .inr (.inr ⟨rfl,rfl⟩)⟩
     ·go_wp2
      go_ret
      first|exact .inl ⟨rfl,rfl,rfl⟩|exact⟨rfl,rfl⟩
   ·have cG:=gp L hf4 ht25 hi0 hz0 hs hzc (n1+n2) w (by omega) hbig hn
    rw[show(((n1+n2:Nat):Int))=(n1:Int)+(n2:Int) by omega]at cG
    have lsb:sb<w.heap.size:=Nr hs1
    obtain⟨N,hN⟩:∃N,w.heap.size=N:=⟨_,rfl⟩
    rw[hN]at cG lsb
    go_wp2_with (refine cG.mono ?_;rintro e W1 ⟨G,cur0,rfl,hh,hsz,hGn,hGm,hB1⟩)
    go_loopg [6,27] 2 (fun g s6 s27 wx=>∃cur:Array Value,wx.heap[N]? =some (.cells cur 3 (0,0))∧cur.size=G*i0.size∧Below N w wx∧((g=2∧s6= .slice (some ⟨N,0,none⟩) 0 G∧s27= .int .i64 0)∨(g=1∧s6= .slice (some ⟨N,0,none⟩) n1 G∧s27= .int .i64 1∧cur.toList.take (n1*i0.size)=us1)∨(g=0∧s6= .slice (some ⟨N,0,none⟩) (n1+n2) G∧s27= .int .i64 2∧cur.toList.take ((n1+n2)*i0.size)=us1++us2)))
    case atStart=>exact⟨cur0,hh,hsz,hB1, .inl ⟨rfl,rfl,rfl⟩⟩
    case round=>
     obtain⟨cur,e1,e2,hB,hrel⟩:=hrel
     have k1:wr.cell? ⟨sb,so,none⟩=some (.slice q1 n1 c1):=(hB.cell (p:=⟨sb,so,none⟩) lsb).trans hs1
     have k2:wr.cell? ⟨sb,so+1,none⟩=some (.slice q2 n2 c2):=(hB.cell (p:=⟨sb,so+1,none⟩) lsb).trans hs2
     obtain⟨rfl,rfl,rfl⟩|⟨rfl,rfl,rfl,ht⟩|⟨rfl,rfl,rfl,ht⟩:=hrel
     ·obtain⟨W2,cur2,a1,a2,a3,a4,a5⟩:=Tn (w:=wr) (k:=0) (m:=n1) (c:=c1) (q:=q1) (us:=us1) tS hi0 e1 e2 hl1 (by
       rcases Hq1.out with h|⟨b,o,h1,h2,h3⟩
       ·exact .inl h
       ·exact .inr ⟨_,h1,fun j u hj=>by rw[Addr.add_lit];exact(hB.cell (p:=⟨b,o+j,none⟩) (by rw[←hN];exact h2)).trans (h3 j u hj)⟩) Ho1.out (by omega)
      have a6:=hB.trans (a5.mono (Nat.le_refl _))
      rw[Nat.zero_add]at a1 a4
      go_wp2_with (at_builtin;refine Lib.wpList_append_run _ rfl _ _ _ _ rfl _ _ rfl rfl _ _ (a1 _) ?_)
      go_roundg 1
      case measure=>omega
      case rel=>exact⟨cur2,a2,by omega,a6, .inr (.inl ⟨rfl,rfl,rfl,by simpa using a4⟩)⟩
     ·obtain⟨W2,cur2,a1,a2,a3,a4,a5⟩:=Tn (w:=wr) (k:=n1) (m:=n2) (c:=c2) (q:=q2) (us:=us2) tS hi0 e1 e2 hl2 (by
       rcases Hq2.out with h|⟨b,o,h1,h2,h3⟩
       ·exact .inl h
       ·exact .inr ⟨_,h1,fun j u hj=>by rw[Addr.add_lit];exact(hB.cell (p:=⟨b,o+j,none⟩) (by rw[←hN];exact h2)).trans (h3 j u hj)⟩) Ho2.out hGn
      have a6:=hB.trans (a5.mono (Nat.le_refl _))
      go_wp2_with (at_builtin;refine Lib.wpList_append_run _ rfl _ _ _ _ rfl _ _ rfl rfl _ _ (a1 _) ?_)
      go_roundg 0
      case measure=>omega
      case rel=>exact⟨cur2,a2,by omega,a6, .inr (.inr ⟨rfl,rfl,rfl,by rw[a4,ht]⟩)⟩
     ·go_wp2
      go_ret
      subst hN
      exact .inr ⟨by omega,G,cur,rfl,e1,e2,hGn,hGm,ht,hB⟩
set_option maxHeartbeats 4000000 in
set_option maxRecDepth 1000000 in
theorem sC {ρ:Ren} (L:Lays8.n4 Tryz.prog ρ) (hf4:ρ.f 4=193) (ht25:ρ.t 25=3) {i0:TypeInfo} {z:Value} (hi0:Tryz.prog.info? 3=some i0) (hz0:i0.zero=some z) (hs:0<i0.size) (hzc:z.cells.size=i0.size)
  (sb so sc:Nat) (q1 q2 q3:Option Addr) (n1 c1 n2 c2 n3 c3:Nat) (us1 us2 us3:List Value) (w:World)
  (hs1:w.cell? ⟨sb,so,none⟩=some (.slice q1 n1 c1)) (hs2:w.cell? ⟨sb,so+1,none⟩=some (.slice q2 n2 c2)) (hs3:w.cell? ⟨sb,so+2,none⟩=some (.slice q3 n3 c3)) (hbig:(n1+n2+n3)*i0.bytes≤140737488351232) (hn:n1+n2+n3≤1000000000000)
  (hl1:us1.length=n1*i0.size) (hl2:us2.length=n2*i0.size) (hl3:us3.length=n3*i0.size) (ho1:∀u∈us1,u.oneCell'=true) (ho2:∀u∈us2,u.oneCell'=true) (ho3:∀u∈us3,u.oneCell'=true)
  (hq1:n1=0∨∃b o,q1=some ⟨b,o,none⟩∧b<w.heap.size∧∀(j:Nat) u,us1[j]? =some u→w.cell? ⟨b,o+j,none⟩=some u)
  (hq2:n2=0∨∃b o,q2=some ⟨b,o,none⟩∧b<w.heap.size∧∀(j:Nat) u,us2[j]? =some u→w.cell? ⟨b,o+j,none⟩=some u)
  (hq3:n3=0∨∃b o,q3=some ⟨b,o,none⟩∧b<w.heap.size∧∀(j:Nat) u,us3[j]? =some u→w.cell? ⟨b,o+j,none⟩=some u):
  Calls Tryz.prog 134 #[.slice (some ⟨sb,so,none⟩) 3 sc] w fun e w'=>(n1+n2+n3=0∧e= .returned (.slice none 0 0)∧w'=w)∨
   (0<n1+n2+n3∧∃G cur,e= .returned (.slice (some ⟨w.heap.size,0,none⟩) (n1+n2+n3) G)∧w'.heap[w.heap.size]? =some (.cells cur 3 (0,0))∧cur.size=G*i0.size∧n1+n2+n3≤G∧G≤maxLen∧cur.toList.take ((n1+n2+n3)*i0.size)=us1++us2++us3∧Below w.heap.size w w'):=by
 have mixed:Tryz.prog.follows .mixedOrders=true:=by kernel_rfl
 have tS:Tryz.prog.underlying 71=some (.slice 3):=by kernel_rfl
 have Hq1:Aside (n1=0∨∃b o,q1=some ⟨b,o,none⟩∧b<w.heap.size∧∀(j:Nat) u,us1[j]? =some u→w.cell? ⟨b,o+j,none⟩=some u):=hq1
 have Hq2:Aside (n2=0∨∃b o,q2=some ⟨b,o,none⟩∧b<w.heap.size∧∀(j:Nat) u,us2[j]? =some u→w.cell? ⟨b,o+j,none⟩=some u):=hq2
 have Hq3:Aside (n3=0∨∃b o,q3=some ⟨b,o,none⟩∧b<w.heap.size∧∀(j:Nat) u,us3[j]? =some u→w.cell? ⟨b,o+j,none⟩=some u):=hq3
 have Ho1:Aside (∀u∈us1,u.oneCell'=true):=ho1
 have Ho2:Aside (∀u∈us2,u.oneCell'=true):=ho2
 have Ho3:Aside (∀u∈us3,u.oneCell'=true):=ho3
 have Hn:Aside (n1+n2+n3≤1000000000000):=hn
 have Hb:Aside ((n1+n2+n3)*i0.bytes≤140737488351232):=hbig
 clear hn hbig
 clear hq1 hq2 hq3 ho1 ho2 ho3
 go_enter Tryz.func134,Tryz.ntmps134
 go_wp2
 go_loopg [3,11] 3 (fun g s3 s11 wx=>wx=w∧((g=3∧s3= .int .i64 0∧s11= .int .i64 0)∨(g=2∧s3= .int .i64 n1∧s11= .int .i64 1)∨(g=1∧s3= .int .i64 ((n1:Int)+(n2:Int))∧s11= .int .i64 2)∨(g=0∧s3= .int .i64 ((n1:Int)+(n2:Int)+(n3:Int))∧s11= .int .i64 3)))
 case atStart=>exact⟨rfl, .inl ⟨rfl,rfl,rfl⟩⟩
 case round=>
  obtain⟨hw,hrel⟩:=hrel
  replace hw:=hw.symm
  subst hw
  obtain⟨rfl,rfl,rfl⟩|⟨rfl,rfl,rfl⟩|⟨rfl,rfl,rfl⟩|⟨rfl,rfl,rfl⟩:=hrel
  ·have d1:¬((n1:Int)<0):=by have:=Hn.out;omega
   have d2:wrap64 ((n1:Int))=(n1:Int):=by have:=Hn.out;unfold wrap64;omega
   go_wp2
   go_roundg 2
   case measure=>omega
   case rel=>exact⟨rfl, .inr (.inl ⟨rfl,rfl,rfl⟩)⟩
  ·have d1:¬((n1:Int)+(n2:Int)<0):=by have:=Hn.out;omega
   have d2:wrap64 ((n1:Int)+(n2:Int))=(n1:Int)+(n2:Int):=by have:=Hn.out;unfold wrap64;omega
   go_wp2
   go_roundg 1
   case measure=>omega
   case rel=>exact⟨rfl, .inr (.inr (.inl ⟨rfl,rfl,rfl⟩))⟩
  ·have d1:¬((n1:Int)+(n2:Int)+(n3:Int)<0):=by have:=Hn.out;omega
   have d2:wrap64 ((n1:Int)+(n2:Int)+(n3:Int))=(n1:Int)+(n2:Int)+(n3:Int):=by have:=Hn.out;unfold wrap64;omega
   go_wp2
   go_roundg 0
   case measure=>omega
   case rel=>exact⟨rfl, .inr (.inr (.inr ⟨rfl,rfl,rfl⟩))⟩
  ·by_cases hz:n1+n2+n3=0
   ·obtain rfl:n1=0:=by omega
    obtain rfl:n2=0:=by omega
    obtain rfl:n3=0:=by omega
    have cG:Calls Tryz.prog 193 #[.slice none 0 0, .int .i64 0] w fun e w'=>e= .returned (.slice none 0 0)∧w'=w:=by
     have h:=Any8.slices_Grow_room L none 0 0 0 w (by omega) (by omega) (by omega) (by omega)
     rw[hf4]at h
     exact h
    have r1:∀ty,(Builtin.append_ #[71,71] ty #[.slice none 0 0, .slice q1 0 c1]).run Tryz.prog w= .ok (.slice none 0 0) w:=fun ty=>Ls tS hi0 (by omega)
    have r2:∀ty,(Builtin.append_ #[71,71] ty #[.slice none 0 0, .slice q2 0 c2]).run Tryz.prog w= .ok (.slice none 0 0) w:=fun ty=>Ls tS hi0 (by omega)
    have r3:∀ty,(Builtin.append_ #[71,71] ty #[.slice none 0 0, .slice q3 0 c3]).run Tryz.prog w= .ok (.slice none 0 0) w:=fun ty=>Ls tS hi0 (by omega)
    go_wp2_with (refine cG.mono ?_;rintro e W' ⟨rfl,hE⟩;replace hE:=hE.symm;subst hE)
    go_loopg [6,27] 3 (fun g s6 s27 wx=>wx=w∧s6= .slice none 0 0∧((g=3∧s27= .int .i64 0)∨(g=2∧s27= .int .i64 1)∨(g=1∧s27= .int .i64 2)∨(g=0∧s27= .int .i64 3)))
    case atStart=>exact⟨rfl,rfl, .inl ⟨rfl,rfl⟩⟩
    case round=>
     obtain⟨rfl,rfl,⟨rfl,rfl⟩|⟨rfl,rfl⟩|⟨rfl,rfl⟩|⟨rfl,rfl⟩⟩:=hrel
     ·go_wp2_with (at_builtin;refine Lib.wpList_append_run _ rfl _ _ _ _ rfl _ _ rfl rfl _ _ (r1 _) ?_)
      go_roundg 2
      case measure=>omega
      case rel=>exact⟨rfl,rfl, .inr (.inl ⟨rfl,rfl⟩)⟩
     ·go_wp2_with (at_builtin;refine Lib.wpList_append_run _ rfl _ _ _ _ rfl _ _ rfl rfl _ _ (r2 _) ?_)
      go_roundg 1
      case measure=>omega
      case rel=>exact⟨rfl,rfl, .inr (.inr (.inl ⟨rfl,rfl⟩))⟩
     ·go_wp2_with (at_builtin;refine Lib.wpList_append_run _ rfl _ _ _ _ rfl _ _ rfl rfl _ _ (r3 _) ?_)
      go_roundg 0
      case measure=>omega
      case rel=>exact⟨rfl,rfl, .inr (.inr (.inr ⟨rfl,rfl⟩))⟩
     ·go_wp2
      go_ret
      first|exact .inl ⟨rfl,rfl,rfl⟩|exact⟨rfl,rfl⟩
   ·have cG:=gp L hf4 ht25 hi0 hz0 hs hzc (n1+n2+n3) w (by omega) Hb.out Hn.out
    rw[show(((n1+n2+n3:Nat):Int))=(n1:Int)+(n2:Int)+(n3:Int) by omega]at cG
    have lsb:sb<w.heap.size:=Nr hs1
    obtain⟨N,hN⟩:∃N,w.heap.size=N:=⟨_,rfl⟩
    rw[hN]at cG lsb
    go_wp2_with (refine cG.mono ?_;rintro e W1 ⟨G,cur0,rfl,hh,hsz,hGn,hGm,hB1⟩)
    go_loopg [6,27] 3 (fun g s6 s27 wx=>∃cur:Array Value,wx.heap[N]? =some (.cells cur 3 (0,0))∧cur.size=G*i0.size∧Below N w wx∧((g=3∧s6= .slice (some ⟨N,0,none⟩) 0 G∧s27= .int .i64 0)∨(g=2∧s6= .slice (some ⟨N,0,none⟩) n1 G∧s27= .int .i64 1∧cur.toList.take (n1*i0.size)=us1)∨(g=1∧s6= .slice (some ⟨N,0,none⟩) (n1+n2) G∧s27= .int .i64 2∧cur.toList.take ((n1+n2)*i0.size)=us1++us2)∨(g=0∧s6= .slice (some ⟨N,0,none⟩) (n1+n2+n3) G∧s27= .int .i64 3∧cur.toList.take ((n1+n2+n3)*i0.size)=us1++us2++us3)))
    case atStart=>exact⟨cur0,hh,hsz,hB1, .inl ⟨rfl,rfl,rfl⟩⟩
    case round=>
     obtain⟨cur,e1,e2,hB,hrel⟩:=hrel
     have k1:wr.cell? ⟨sb,so,none⟩=some (.slice q1 n1 c1):=(hB.cell (p:=⟨sb,so,none⟩) lsb).trans hs1
     have k2:wr.cell? ⟨sb,so+1,none⟩=some (.slice q2 n2 c2):=(hB.cell (p:=⟨sb,so+1,none⟩) lsb).trans hs2
     have k3:wr.cell? ⟨sb,so+2,none⟩=some (.slice q3 n3 c3):=(hB.cell (p:=⟨sb,so+2,none⟩) lsb).trans hs3
     obtain⟨rfl,rfl,rfl⟩|⟨rfl,rfl,rfl,ht⟩|⟨rfl,rfl,rfl,ht⟩|⟨rfl,rfl,rfl,ht⟩:=hrel
     ·obtain⟨W2,cur2,a1,a2,a3,a4,a5⟩:=Tn (w:=wr) (k:=0) (m:=n1) (c:=c1) (q:=q1) (us:=us1) tS hi0 e1 e2 hl1 (by
       rcases Hq1.out with h|⟨b,o,h1,h2,h3⟩
       ·exact .inl h
       ·exact .inr ⟨_,h1,fun j u hj=>by rw[Addr.add_lit];exact(hB.cell (p:=⟨b,o+j,none⟩) (by rw[←hN];exact h2)).trans (h3 j u hj)⟩) Ho1.out (by omega)
      have a6:=hB.trans (a5.mono (Nat.le_refl _))
      rw[Nat.zero_add]at a1 a4
      go_wp2_with (at_builtin;refine Lib.wpList_append_run _ rfl _ _ _ _ rfl _ _ rfl rfl _ _ (a1 _) ?_)
      go_roundg 2
      case measure=>omega
      case rel=>exact⟨cur2,a2,by omega,a6, .inr (.inl ⟨rfl,rfl,rfl,by simpa using a4⟩)⟩
     ·obtain⟨W2,cur2,a1,a2,a3,a4,a5⟩:=Tn (w:=wr) (k:=n1) (m:=n2) (c:=c2) (q:=q2) (us:=us2) tS hi0 e1 e2 hl2 (by
       rcases Hq2.out with h|⟨b,o,h1,h2,h3⟩
       ·exact .inl h
       ·exact .inr ⟨_,h1,fun j u hj=>by rw[Addr.add_lit];exact(hB.cell (p:=⟨b,o+j,none⟩) (by rw[←hN];exact h2)).trans (h3 j u hj)⟩) Ho2.out (by omega)
      have a6:=hB.trans (a5.mono (Nat.le_refl _))
      go_wp2_with (at_builtin;refine Lib.wpList_append_run _ rfl _ _ _ _ rfl _ _ rfl rfl _ _ (a1 _) ?_)
      go_roundg 1
      case measure=>omega
      case rel=>exact⟨cur2,a2,by omega,a6, .inr (.inr (.inl ⟨rfl,rfl,rfl,by rw[a4,ht]⟩))⟩
     ·obtain⟨W2,cur2,a1,a2,a3,a4,a5⟩:=Tn (w:=wr) (k:=n1+n2) (m:=n3) (c:=c3) (q:=q3) (us:=us3) tS hi0 e1 e2 hl3 (by
       rcases Hq3.out with h|⟨b,o,h1,h2,h3⟩
       ·exact .inl h
       ·exact .inr ⟨_,h1,fun j u hj=>by rw[Addr.add_lit];exact(hB.cell (p:=⟨b,o+j,none⟩) (by rw[←hN];exact h2)).trans (h3 j u hj)⟩) Ho3.out (by omega)
      have a6:=hB.trans (a5.mono (Nat.le_refl _))
      go_wp2_with (at_builtin;refine Lib.wpList_append_run _ rfl _ _ _ _ rfl _ _ rfl rfl _ _ (a1 _) ?_)
      go_roundg 0
      case measure=>omega
      case rel=>exact⟨cur2,a2,by omega,a6, .inr (.inr (.inr ⟨rfl,rfl,rfl,by rw[a4,ht]⟩))⟩
     ·go_wp2
      go_ret
      subst hN
      exact .inr ⟨by omega,G,cur,rfl,e1,e2,hGn,hGm,ht,hB⟩
set_option maxRecDepth 1000000 in
theorem sD {ρ:Ren} (L:Lays8.n4 Tryz.prog ρ) (hf4:ρ.f 4=266) (ht25:ρ.t 25=106) {i0:TypeInfo} {z:Value} (hi0:Tryz.prog.info? 106=some i0) (hz0:i0.zero=some z) (hs:0<i0.size) (hzc:z.cells.size=i0.size) (n:Nat) (w:World) (h0:0<n) (hb:n*i0.bytes≤140737488351232) (hn:n≤1000000000000):
  Calls Tryz.prog 266 #[.slice none 0 0, .int .i64 n] w fun e w'=>∃G cur,e= .returned (.slice (some ⟨w.heap.size,0,none⟩) 0 G)∧w'.heap[w.heap.size]? =some (.cells cur 106 (0,0))∧cur.size=G*i0.size∧n≤G∧G≤maxLen∧Below w.heap.size w w':=by
 have h:=Any8.slices_Grow_grow L i0 z (by rw[ht25];exact hi0) hz0 hs none 0 0 n [] w (by omega) (by omega) (by rw[Nat.zero_add];omega) (by omega) (by simp) (fun _=>rfl) (fun a h=>by cases h)
 rw[hf4,ht25]at h
 refine h.mono ?_
 rintro e w' ⟨rfl,rfl⟩
 have hge:=grownCap_ge w (0+n) 0 106
 have hle:=grownCap_le_maxLen w (0+n) 0 106 (by unfold maxLen;omega)
 refine⟨_,_,rfl,by show(w.heap.push _)[w.heap.size]? =_;exact Array.getElem?_push_size, ?_,by omega,hle,(Below.refl _ w).drew.alloc (Nat.le_refl _) _⟩
 simp only[Array.size_append,size_zeroCells,hzc,List.size_toArray,List.length_nil]
 rw[Nat.zero_add,←Nat.add_mul]
 congr 1
 omega
set_option maxHeartbeats 4000000 in
set_option maxRecDepth 1000000 in
theorem sE {ρ:Ren} (L:Lays8.n4 Tryz.prog ρ) (hf4:ρ.f 4=266) (ht25:ρ.t 25=106) {i0:TypeInfo} {z:Value} (hi0:Tryz.prog.info? 106=some i0) (hz0:i0.zero=some z) (hs:0<i0.size) (hzc:z.cells.size=i0.size)
  (sb so sc:Nat) (q1 q2:Option Addr) (n1 c1 n2 c2:Nat) (us1 us2:List Value) (w:World)
  (hs1:w.cell? ⟨sb,so,none⟩=some (.slice q1 n1 c1)) (hs2:w.cell? ⟨sb,so+1,none⟩=some (.slice q2 n2 c2)) (hbig:(n1+n2)*i0.bytes≤140737488351232) (hn:n1+n2≤1000000000000)
  (hl1:us1.length=n1*i0.size) (hl2:us2.length=n2*i0.size) (ho1:∀u∈us1,u.oneCell'=true) (ho2:∀u∈us2,u.oneCell'=true)
  (hq1:n1=0∨∃b o,q1=some ⟨b,o,none⟩∧b<w.heap.size∧∀(j:Nat) u,us1[j]? =some u→w.cell? ⟨b,o+j,none⟩=some u)
  (hq2:n2=0∨∃b o,q2=some ⟨b,o,none⟩∧b<w.heap.size∧∀(j:Nat) u,us2[j]? =some u→w.cell? ⟨b,o+j,none⟩=some u):
  Calls Tryz.prog 222 #[.slice (some ⟨sb,so,none⟩) 2 sc] w fun e w'=>(n1+n2=0∧e= .returned (.slice none 0 0)∧w'=w)∨
   (0<n1+n2∧∃G cur,e= .returned (.slice (some ⟨w.heap.size,0,none⟩) (n1+n2) G)∧w'.heap[w.heap.size]? =some (.cells cur 106 (0,0))∧cur.size=G*i0.size∧n1+n2≤G∧G≤maxLen∧cur.toList.take ((n1+n2)*i0.size)=us1++us2∧Below w.heap.size w w'):=by
 have mixed:Tryz.prog.follows .mixedOrders=true:=by kernel_rfl
 have tS:Tryz.prog.underlying 41=some (.slice 106):=by kernel_rfl
 have Hq1:Aside (n1=0∨∃b o,q1=some ⟨b,o,none⟩∧b<w.heap.size∧∀(j:Nat) u,us1[j]? =some u→w.cell? ⟨b,o+j,none⟩=some u):=hq1
 have Hq2:Aside (n2=0∨∃b o,q2=some ⟨b,o,none⟩∧b<w.heap.size∧∀(j:Nat) u,us2[j]? =some u→w.cell? ⟨b,o+j,none⟩=some u):=hq2
 have Ho1:Aside (∀u∈us1,u.oneCell'=true):=ho1
 have Ho2:Aside (∀u∈us2,u.oneCell'=true):=ho2
 clear hq1 hq2 ho1 ho2
 go_enter Tryz.func222,Tryz.ntmps222
 go_wp2
 go_loopg [3,11] 2 (fun g s3 s11 wx=>wx=w∧((g=2∧s3= .int .i64 0∧s11= .int .i64 0)∨(g=1∧s3= .int .i64 n1∧s11= .int .i64 1)∨(g=0∧s3= .int .i64 ((n1:Int)+(n2:Int))∧s11= .int .i64 2)))
 case atStart=>exact⟨rfl, .inl ⟨rfl,rfl,rfl⟩⟩
 case round=>
  obtain⟨hw,hrel⟩:=hrel
  replace hw:=hw.symm
  subst hw
  obtain⟨rfl,rfl,rfl⟩|⟨rfl,rfl,rfl⟩|⟨rfl,rfl,rfl⟩:=hrel
  ·have d1:¬((n1:Int)<0):=by omega
   go_wp2
   go_roundg 1
   case measure=>omega
   case rel=>exact⟨rfl, .inr (.inl ⟨rfl,rfl,rfl⟩)⟩
  ·have d1:¬((n1:Int)+(n2:Int)<0):=by omega
   have d2:wrap64 ((n1:Int)+(n2:Int))=(n1:Int)+(n2:Int):=by unfold wrap64;omega
   go_wp2
   go_roundg 0
   case measure=>omega
   case rel=>exact⟨rfl, .inr (.inr ⟨rfl,rfl,rfl⟩)⟩
  ·by_cases hz:n1+n2=0
   ·obtain rfl:n1=0:=by omega
    obtain rfl:n2=0:=by omega
    have cG:Calls Tryz.prog 266 #[.slice none 0 0, .int .i64 0] w fun e w'=>e= .returned (.slice none 0 0)∧w'=w:=by
     have h:=Any8.slices_Grow_room L none 0 0 0 w (by omega) (by omega) (by omega) (by omega)
     rw[hf4]at h
     exact h
    have r1:∀ty,(Builtin.append_ #[41,41] ty #[.slice none 0 0, .slice q1 0 c1]).run Tryz.prog w= .ok (.slice none 0 0) w:=fun ty=>Ls tS hi0 (by omega)
    have r2:∀ty,(Builtin.append_ #[41,41] ty #[.slice none 0 0, .slice q2 0 c2]).run Tryz.prog w= .ok (.slice none 0 0) w:=fun ty=>Ls tS hi0 (by omega)
    go_wp2_with (refine cG.mono ?_;rintro e W' ⟨rfl,hE⟩;replace hE:=hE.symm;subst hE)
    go_loopg [6,27] 2 (fun g s6 s27 wx=>wx=w∧s6= .slice none 0 0∧((g=2∧s27= .int .i64 0)∨(g=1∧s27= .int .i64 1)∨(g=0∧s27= .int .i64 2)))
    case atStart=>exact⟨rfl,rfl, .inl ⟨rfl,rfl⟩⟩
    case round=>
     obtain⟨rfl,rfl,⟨rfl,rfl⟩|⟨rfl,rfl⟩|⟨rfl,rfl⟩⟩:=hrel
     ·go_wp2_with (at_builtin;refine Lib.wpList_append_run _ rfl _ _ _ _ rfl _ _ rfl rfl _ _ (r1 _) ?_)
      go_roundg 1
      case measure=>omega
      case rel=>exact⟨rfl,rfl, .inr (.inl ⟨rfl,rfl⟩)⟩
     ·go_wp2_with (at_builtin;refine Lib.wpList_append_run _ rfl _ _ _ _ rfl _ _ rfl rfl _ _ (r2 _) ?_)
      go_roundg 0
      case measure=>omega
      case rel=>exact⟨rfl,rfl, .inr (.inr ⟨rfl,rfl⟩)⟩
     ·go_wp2
      go_ret
      first|exact .inl ⟨rfl,rfl,rfl⟩|exact⟨rfl,rfl⟩
   ·have cG:=sD L hf4 ht25 hi0 hz0 hs hzc (n1+n2) w (by omega) hbig hn
    rw[show(((n1+n2:Nat):Int))=(n1:Int)+(n2:Int) by omega]at cG
    have lsb:sb<w.heap.size:=Nr hs1
    obtain⟨N,hN⟩:∃N,w.heap.size=N:=⟨_,rfl⟩
    rw[hN]at cG lsb
    go_wp2_with (refine cG.mono ?_;rintro e W1 ⟨G,cur0,rfl,hh,hsz,hGn,hGm,hB1⟩)
    go_loopg [6,27] 2 (fun g s6 s27 wx=>∃cur:Array Value,wx.heap[N]? =some (.cells cur 106 (0,0))∧cur.size=G*i0.size∧Below N w wx∧((g=2∧s6= .slice (some ⟨N,0,none⟩) 0 G∧s27= .int .i64 0)∨(g=1∧s6= .slice (some ⟨N,0,none⟩) n1 G∧s27= .int .i64 1∧cur.toList.take (n1*i0.size)=us1)∨(g=0∧s6= .slice (some ⟨N,0,none⟩) (n1+n2) G∧s27= .int .i64 2∧cur.toList.take ((n1+n2)*i0.size)=us1++us2)))
    case atStart=>exact⟨cur0,hh,hsz,hB1, .inl ⟨rfl,rfl,rfl⟩⟩
    case round=>
     obtain⟨cur,e1,e2,hB,hrel⟩:=hrel
     have k1:wr.cell? ⟨sb,so,none⟩=some (.slice q1 n1 c1):=(hB.cell (p:=⟨sb,so,none⟩) lsb).trans hs1
     have k2:wr.cell? ⟨sb,so+1,none⟩=some (.slice q2 n2 c2):=(hB.cell (p:=⟨sb,so+1,none⟩) lsb).trans hs2
     obtain⟨rfl,rfl,rfl⟩|⟨rfl,rfl,rfl,ht⟩|⟨rfl,rfl,rfl,ht⟩:=hrel
     ·obtain⟨W2,cur2,a1,a2,a3,a4,a5⟩:=Tn (w:=wr) (k:=0) (m:=n1) (c:=c1) (q:=q1) (us:=us1) tS hi0 e1 e2 hl1 (by
       rcases Hq1.out with h|⟨b,o,h1,h2,h3⟩
       ·exact .inl h
       ·exact .inr ⟨_,h1,fun j u hj=>by rw[Addr.add_lit];exact(hB.cell (p:=⟨b,o+j,none⟩) (by rw[←hN];exact h2)).trans (h3 j u hj)⟩) Ho1.out (by omega)
      have a6:=hB.trans (a5.mono (Nat.le_refl _))
      rw[Nat.zero_add]at a1 a4
      go_wp2_with (at_builtin;refine Lib.wpList_append_run _ rfl _ _ _ _ rfl _ _ rfl rfl _ _ (a1 _) ?_)
      go_roundg 1
      case measure=>omega
      case rel=>exact⟨cur2,a2,by omega,a6, .inr (.inl ⟨rfl,rfl,rfl,by simpa using a4⟩)⟩
     ·obtain⟨W2,cur2,a1,a2,a3,a4,a5⟩:=Tn (w:=wr) (k:=n1) (m:=n2) (c:=c2) (q:=q2) (us:=us2) tS hi0 e1 e2 hl2 (by
       rcases Hq2.out with h|⟨b,o,h1,h2,h3⟩
       ·exact .inl h
       ·exact .inr ⟨_,h1,fun j u hj=>by rw[Addr.add_lit];exact(hB.cell (p:=⟨b,o+j,none⟩) (by rw[←hN];exact h2)).trans (h3 j u hj)⟩) Ho2.out hGn
      have a6:=hB.trans (a5.mono (Nat.le_refl _))
      go_wp2_with (at_builtin;refine Lib.wpList_append_run _ rfl _ _ _ _ rfl _ _ rfl rfl _ _ (a1 _) ?_)
      go_roundg 0
      case measure=>omega
      case rel=>exact⟨cur2,a2,by omega,a6, .inr (.inr ⟨rfl,rfl,rfl,by rw[a4,ht]⟩)⟩
     ·go_wp2
      go_ret
      subst hN
      exact .inr ⟨by omega,G,cur,rfl,e1,e2,hGn,hGm,ht,hB⟩
end TT
