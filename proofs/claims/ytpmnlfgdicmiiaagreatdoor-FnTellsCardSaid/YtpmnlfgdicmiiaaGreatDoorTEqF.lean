import Derived.Shelf.Strings.Fold
import Derived.ScopeJumps
import Derived.Laws.RangeString
import Derived.Shelf.Unicode.DecodeAny
import Derived.Shelf.Unicode.Decode
import Derived.Shelf.Unicode.IsSpaceAny
import Derived.Lib.OthersKept
import Derived.Lib.TrimU
import Derived.Deep.LoopGhost
import Derived.WalkMore
set_option linter.unusedVariables false
set_option linter.unusedSimpArgs false
namespace TT
open Go Go.Proofs Go.Shelf Go.RowKit Go.Lib
variable {P:Program} {ρ:Ren}
set_option maxHeartbeats 2000000 in
set_option maxRecDepth 100000 in
theorem Vv (L:Lays.n239 P ρ) (r q:Nat) (w:World) (hr:r<128) (hq':q<128) (hq:w.cell? ⟨ρ.g 11,r,none⟩=some (.int .u16 q)):
  Calls P (ρ.f 239) #[.int .i32 r] w fun e w'=>e= .returned (.int .i32 q)∧w'=w:=by
 have mixed:=L.mixed
 have t3:=L.t3;have a3:=L.a3;have z3:=L.z3;have v3:=L.v3;have t4:=L.t4;have a4:=L.a4;have z4:=L.z4;have v4:=L.v4;have t21:=L.t21;have a21:=L.a21;have z21:=L.z21;have v21:=L.v21
 have t49:=L.t49;have a49:=L.a49;have z49:=L.z49;have v49:=L.v49;have t156:=L.t156;have a156:=L.a156;have z156:=L.z156
 have u156:=run_underlying L.t156
 have c1:¬((r:Int)<0):=by omega
 have c2:¬((r:Int)>1114111):=by omega
 have c3:((r:Int)<128):=by omega
 go_enter L.f239,Body.n239_ntmps ρ
 go_wp2
 go_ret
 exact⟨rfl,rfl⟩
theorem A4r {S:ByteArray} {x:UInt8} (h:S.data.toList[0]? =some x) (hx:128≤x.toNat):128≤(Utf8.decode S 0).1:=by
 have hlt:0<S.size:=by
  have:=(List.getElem?_eq_some_iff.1 h).1
  rwa [Lib.size_eq]
 have h0:(S.get! 0).toNat=x.toNat:=by
  have e:S.get! 0=S[0]'hlt:=by
   cases S with
   |mk d=>exact getElem!_pos d 0 hlt
  have e2:=Lib.data_getElem? S 0 hlt
  rw[h]at e2
  rw[e,←Option.some.inj e2]
 rw[Lib.decode_at,h0]
 unfold Lib.decodeN
 rw[if_neg (by omega)]
 repeat' split
 all_goals (simp only;omega)
set_option maxRecDepth 100000 in
theorem AB4 (tm:Array Value) (h:tm.size=123) {a b c:Value} (h0:tm[0]? =some a) (h1:tm[1]? =some b) (h5:tm[5]? =some c):∃u:Nat→Value,tm= #[a,b,u 2,u 3,u 4,c,u 6,u 7,u 8,u 9,u 10,u 11,u 12,u 13,u 14,u 15,u 16,u 17,u 18,u 19,u 20,u 21,u 22,u 23,u 24,u 25,u 26,u 27,u 28,u 29,u 30,u 31,u 32,u 33,u 34,u 35,u 36,u 37,u 38,u 39,u 40,u 41,u 42,u 43,u 44,u 45,u 46,u 47,u 48,u 49,u 50,u 51,u 52,u 53,u 54,u 55,u 56,u 57,u 58,u 59,u 60,u 61,u 62,u 63,u 64,u 65,u 66,u 67,u 68,u 69,u 70,u 71,u 72,u 73,u 74,u 75,u 76,u 77,u 78,u 79,u 80,u 81,u 82,u 83,u 84,u 85,u 86,u 87,u 88,u 89,u 90,u 91,u 92,u 93,u 94,u 95,u 96,u 97,u 98,u 99,u 100,u 101,u 102,u 103,u 104,u 105,u 106,u 107,u 108,u 109,u 110,u 111,u 112,u 113,u 114,u 115,u 116,u 117,u 118,u 119,u 120,u 121,u 122]:=by
 have e:∀k v,tm[k]? =some v→tm.getD k undef=v:=fun k v hk=>by rw[Array.getD_eq_getD_getElem?,hk];rfl
 have key:tm=((List.range 123).map fun k=>tm.getD k undef).toArray:=by
  apply Array.ext
  ·simp[h]
  ·intro k hk _
   simp[Array.getD_eq_getD_getElem?,hk]
 refine⟨fun k=>tm.getD k undef, ?_⟩
 rw[←e 0 a h0,←e 1 b h1,←e 5 c h5]
 exact key
set_option maxHeartbeats 8000000 in
set_option maxRecDepth 1000000 in
theorem yl (L:Lays.n164 P ρ) (s t:ByteArray) (w:World) (hs:s.size<4294967281)
  (hat:∀(j:Nat) b,t.data.toList[j]? =some b→b=120∨b=109∨b=108)
  (htab:∀r q:Nat,(r,q)∈[(120,88),(88,120),(109,77),(77,109),(108,76),(76,108)]→w.cell? ⟨ρ.g 11,r,none⟩=some (.int .u16 q)):
  Calls P (ρ.f 164) #[.string s, .string t] w fun e w'=>e= .returned (.bool (Lib.equalFold s.data.toList t.data.toList))∧Below w.heap.size w w':=by
 have HT:Aside (∀(j:Nat) b,t.data.toList[j]? =some b→b=120∨b=109∨b=108):=hat
 have HB:Aside (∀r q:Nat,(r,q)∈[(120,88),(88,120),(109,77),(77,109),(108,76),(76,108)]→w.cell? ⟨ρ.g 11,r,none⟩=some (.int .u16 q)):=htab
 clear hat htab
 obtain⟨M,hM⟩:∃M:Nat,min (s.size:Int) (t.size:Int)=(M:Int):=⟨min s.size t.size,by omega⟩
 have hMs:M≤s.size:=by omega
 have hMt:M≤t.size:=by omega
 have hMe:M=s.size∨M=t.size:=by omega
 have t3:=L.t3;have t4:=L.t4;have t5:=L.t5;have t9:=L.t9;have t21:=L.t21;have t0:=L.t0;have t105:=L.t105
 have a3:=L.a3;have a4:=L.a4;have a5:=L.a5;have a9:=L.a9;have a21:=L.a21;have a0:=L.a0;have a105:=L.a105
 have z3:=L.z3;have v3:=L.v3;have z4:=L.z4;have v4:=L.v4;have z5:=L.z5;have v5:=L.v5;have z9:=L.z9;have v9:=L.v9;have z21:=L.z21;have v21:=L.v21;have z0:=L.z0;have v0:=L.v0
 have mixed:=L.mixed
 have e197:∀args w,(callFunc (ρ.f 197) args).run P w= .ok (.enter (ρ.f 197) args) w:=enters_of L.f197 (by kernel_rfl) rfl
 have e239:∀args w,(callFunc (ρ.f 239) args).run P w= .ok (.enter (ρ.f 239) args) w:=enters_of L.f239 (by kernel_rfl) rfl
 go_enter L.f164,Body.n164_ntmps ρ
 go_wp2
 refine wp_scope_jumps 0 (fun a' w'=>w'=w∧a'.defers=[]∧∃i:Nat,a'.tmps.size=123∧a'.tmps[0]? =some (.string s)∧a'.tmps[1]? =some (.string t)∧a'.tmps[5]? =some (.int .i64 i)∧i<s.size∧i<t.size∧(∃x,s.data.toList[i]? =some x∧128≤x.toNat)∧Lib.equalFold (s.data.toList.drop i) (t.data.toList.drop i)=Lib.equalFold s.data.toList t.data.toList) (fun _ _=>0) rfl ?_ ?_
 ·go_wp2
  go_loopg [5] M (fun g s5 wx=>w=wx∧∃i:Nat,i+g=M∧s5= .int .i64 i∧Lib.equalFold (s.data.toList.drop i) (t.data.toList.drop i)=Lib.equalFold s.data.toList t.data.toList)
  case atStart=>exact⟨rfl,0,by omega,rfl,rfl⟩
  case round=>
   obtain⟨rfl,i,hig,rfl,hinv⟩:=hrel
   have HI:Aside (Lib.equalFold (s.data.toList.drop i) (t.data.toList.drop i)=Lib.equalFold s.data.toList t.data.toList):=hinv
   clear hinv hM
   cases gk with
   |zero=>
    have hiM:¬((i:Int)<(M:Int)):=by omega
    obtain rfl:i=M:=by omega
    have hE:Lib.equalFold s.data.toList t.data.toList=decide (s.size=t.size):=by
     rw[←HI.out,Lib.equalFold_end _ _ (by
      rcases hMe with h|h
      ·exact Or.inl (List.drop_eq_nil_of_le (by rw[←Lib.size_eq];omega))
      ·exact Or.inr (List.drop_eq_nil_of_le (by rw[←Lib.size_eq];omega))),List.length_drop,List.length_drop,←Lib.size_eq,←Lib.size_eq]
     exact decide_eq_decide.2 (by omega)
    by_cases hst:s.size=t.size
    ·have hb:((s.size:Int)==(t.size:Int))=true:=beq_iff_eq.2 (by omega)
     go_wp2
     simp only[Exit.jump]
     go_ret
     exact⟨by rw[hE];simp[hst],Below.refl _ _⟩
    ·have hb:((s.size:Int)==(t.size:Int))=false:=beq_eq_false_iff_ne.2 (by omega)
     go_wp2
     simp only[Exit.jump]
     go_ret
     exact⟨by rw[hE];simp[hst],Below.refl _ _⟩
   |succ g=>
    have hiM:(i:Int)<(M:Int):=by omega
    have hisz:(i:Int)<(s.size:Int):=by omega
    have hitz:(i:Int)<(t.size:Int):=by omega
    obtain⟨x,hx⟩:∃x:UInt8,s[i]'(by omega)=x:=⟨_,rfl⟩
    obtain⟨y,hy⟩:∃y:UInt8,t[i]'(by omega)=y:=⟨_,rfl⟩
    have hxl:s.data.toList[i]? =some x:=by rw[←hx];exact Lib.data_getElem? s i (by omega)
    have hyl:t.data.toList[i]? =some y:=by rw[←hy];exact Lib.data_getElem? t i (by omega)
    have hy128:y.toNat<128:=by rcases HT.out i y hyl with rfl|rfl|rfl<;>decide
    by_cases hx128:x.toNat<128
    ·have hor:bits .or .u8 (x.toNat:Int) (y.toNat:Int)=((x.toNat|||y.toNat:Nat):Int):=u8_or_nat _ _ (by omega) (by omega)
     have hor128:¬((128:Int)≤((x.toNat|||y.toNat:Nat):Int)):=by have:=Nat.or_lt_two_pow (n:=7) hx128 hy128;omega
     have Hx:Aside (s.data.toList[i]? =some x∧t.data.toList[i]? =some y):=⟨hxl,hyl⟩
     clear hxl hyl
     go_wp2
     all_goals (try simp only[beq_iff_eq,beq_eq_false_iff_ne,ne_eq]at*)
     all_goals first
      |(go_roundg g
        case measure=>omega
        case rel=>exact⟨rfl,i+1,by omega,by first|rfl|simp,by rw[←HI.out,Lib.drop_at Hx.out.1,Lib.drop_at Hx.out.2,Lib.equalFold_yes _ _ _ _ (decide_eq_true (by omega))]⟩)
      |(simp only[Exit.jump]
        go_ret
        refine⟨?_,Below.refl _ _⟩
        rw[←HI.out,Lib.drop_at Hx.out.1,Lib.drop_at Hx.out.2,Lib.equalFold_no _ _ _ _ (decide_eq_false (by omega))]
        rfl)
    ·have hor:bits .or .u8 (x.toNat:Int) (y.toNat:Int)=((x.toNat|||y.toNat:Nat):Int):=u8_or_nat _ _ (by have:=x.toNat_lt;omega) (by omega)
     have hor128:((128:Int)≤((x.toNat|||y.toNat:Nat):Int)):=by have:x.toNat≤x.toNat|||y.toNat:=Nat.left_le_or;omega
     have Hx:Aside (s.data.toList[i]? =some x∧t.data.toList[i]? =some y):=⟨hxl,hyl⟩
     clear hxl hyl
     go_wp2
     go_step3
     exact⟨rfl,rfl,rfl,i,rfl,rfl,rfl,rfl,by omega,by omega,⟨x,Hx.out.1,by omega⟩,HI.out⟩
 ·rintro ⟨tm,df⟩ w' ⟨rfl,hdf,i,h123,h0,h1,h5,hi,hit,⟨x,hx,hx128⟩,hinv⟩
  obtain rfl:df=[]:=hdf
  obtain⟨u,rfl⟩:=AB4 tm h123 h0 h1 h5
  clear h123 h0 h1 h5
  have c1:(0:Int)≤(i:Int):=by omega
  have c2:(i:Int)≤(s.size:Int):=by omega
  have c3:(i:Int)≤(t.size:Int):=by omega
  go_wp2
  go_loopg [1] 1 (fun g s1 wx=>s1= .string (t.extract i t.size)∧wx=w'.iter (s.extract i s.size) 0)
  case atStart=>exact⟨rfl,rfl⟩
  case round=>
   obtain⟨rfl,rfl⟩:=hrel
   have hp:0<(s.extract i s.size).size:=by simp;omega
   have hpt:0<(t.extract i t.size).size:=by simp;omega
   have hS0:(s.extract i s.size).data.toList[0]? =some x:=by rw[Lib.extract_data,List.getElem?_take,if_pos (by omega),List.getElem?_drop];exact hx
   obtain⟨y,hy⟩:∃y:UInt8,t.data.toList[i]? =some y:=⟨t[i]'hit,Lib.data_getElem? t i hit⟩
   have hT0:(t.extract i t.size).data.toList[0]? =some y:=by rw[Lib.extract_data,List.getElem?_take,if_pos (by omega),List.getElem?_drop];exact hy
   obtain⟨S,hS⟩:∃S,s.extract i s.size=S:=⟨_,rfl⟩
   obtain⟨T,hT⟩:∃T,t.extract i t.size=T:=⟨_,rfl⟩
   rw[hS]at hp hS0 ⊢
   rw[hT]at hpt hT0 ⊢
   have hfin:Lib.equalFold s.data.toList t.data.toList=false:=by
    have hyt:y.toNat=120∨y.toNat=109∨y.toNat=108:=by
     rcases HT.out i y hy with rfl|rfl|rfl
     ·exact .inl rfl
     ·exact .inr (.inl rfl)
     ·exact .inr (.inr rfl)
    rw[←hinv,Lib.drop_at hx,Lib.drop_at hy]
    exact Lib.equalFold_no _ _ _ _ (decide_eq_false (by omega))
   have hR:128≤(Utf8.decode S 0).1:=A4r hS0 hx128
   obtain⟨yn,q,hyn,hm1,hm2,hy128,hq128,hqy⟩:∃yn q:Nat,y.toNat=yn∧(yn,q)∈[(120,88),(88,120),(109,77),(77,109),(108,76),(76,108)]∧(q,yn)∈[(120,88),(88,120),(109,77),(77,109),(108,76),(76,108)]∧yn<128∧q<128∧q≠yn:=by
    rcases HT.out i y hy with rfl|rfl|rfl
    ·exact⟨120,88,rfl,by decide,by decide,by decide,by decide,by decide⟩
    ·exact⟨109,77,rfl,by decide,by decide,by decide,by decide,by decide⟩
    ·exact⟨108,76,rfl,by decide,by decide,by decide,by decide,by decide⟩
   have hnx:∀ty,(Instr.next (.pointer (some ⟨w'.heap.size,0,none⟩)) true ty).run P (w'.iter S 0)=_:=fun ty=>Lib.run_next_any_at (w'.iter S 0) w'.heap.size S 0 ty (World.iter_heap w' S 0) hp
   have hB1:Below w'.heap.size w' ((w'.iter S 0).iterAt w'.heap.size S (0+(Utf8.decode S 0).2)):=Lib.below_iterAt ((Below.refl _ w').alloc (Nat.le_refl _) _) (Nat.le_refl _) S _
   obtain⟨R,hRd⟩:∃R,(Utf8.decode S 0).1=R:=⟨_,rfl⟩
   rw[hRd]at hnx hR
   obtain⟨W1,hW1⟩:∃W1,(w'.iter S 0).iterAt w'.heap.size S (0+(Utf8.decode S 0).2)=W1:=⟨_,rfl⟩
   rw[hW1]at hnx hB1
   have hcell:∀r q:Nat,(r,q)∈[(120,88),(88,120),(109,77),(77,109),(108,76),(76,108)]→W1.cell? ⟨ρ.g 11,r,none⟩=some (.int .u16 q):=fun r q h=>by
    have h1:=HB.out r q h
    have hl:ρ.g 11<w'.heap.size:=by
     rcases Nat.lt_or_ge (ρ.g 11) w'.heap.size with h'|h'
     ·exact h'
     ·simp[World.cell?,Array.getElem?_eq_none h']at h1
    rw[←h1]
    simp only[World.cell?,hB1.block _ hl]
   have cD:=Any.utf8_DecodeRuneInString_ascii { L with } T y W1 hT0 (by omega)
   rw[hyn]at cD
   have cF1:=Vv { L with } yn q W1 hy128 hq128 (hcell _ _ hm1)
   have cF2:=Vv { L with } q yn W1 hq128 hy128 (hcell _ _ hm2)
   clear hW1 hm1 hm2 hcell hS0 hT0 hx hy hinv
   have d0:((T.size:Int)==0)=false:=beq_eq_false_iff_ne.2 (by omega)
   have d1:((yn:Int)==(R:Int))=false:=beq_eq_false_iff_ne.2 (by omega)
   have d2:(yn:Int)<(R:Int):=by omega
   have d3:¬((R:Int)<128):=by omega
   have d4:(0:Int)≤1:=by omega
   have d5:(1:Int)≤(T.size:Int):=by omega
   go_wp2_with (first|(go_at_fn (ρ.f 197);go_fit cD;rintro e W' ⟨rfl,hE⟩;replace hE:=hE.symm;subst hE)|(go_at_fn (ρ.f 239);go_fit cF1;rintro e W' ⟨rfl,hE⟩;replace hE:=hE.symm;subst hE))
   go_loopg [13] 1 (fun g s13 wx=>wx=W1∧((g=1∧s13= .int .i32 q)∨(g=0∧s13= .int .i32 yn)))
   case atStart=>exact⟨rfl, .inl ⟨rfl,rfl⟩⟩
   case round=>
    obtain⟨rfl,⟨rfl,rfl⟩|⟨rfl,rfl⟩⟩:=hrel
    ·have e1:((q:Int)==(yn:Int))=false:=beq_eq_false_iff_ne.2 (by omega)
     have e2:(q:Int)<(R:Int):=by omega
     have e3:¬((q:Int)=(yn:Int)):=by omega
     go_wp2_with (go_at_fn (ρ.f 239);go_fit cF2;rintro e W' ⟨rfl,hE⟩;replace hE:=hE.symm;subst hE)
     go_roundg 0
     case measure=>omega
     case rel=>exact⟨rfl, .inr ⟨rfl,rfl⟩⟩
    ·go_wp2
     simp only[Exit.jump]
     go_ret
     exact⟨by rw[hfin];rfl,hB1⟩
end TT
