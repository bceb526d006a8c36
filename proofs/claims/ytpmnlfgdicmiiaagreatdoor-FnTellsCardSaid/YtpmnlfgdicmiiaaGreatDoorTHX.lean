import Derived.Test.YtpmnlfgdicmiiaaGreatDoorTH4
import Derived.Shelf.Unicode.DecodeSlow
import Derived.Shelf.Strings.Search3
import Derived.Lib.CutLaws
import Derived.Lib.ItoaNum
import Derived.Lib.LaidTab
import Derived.Lib.AppendIntMem
import Derived.Handed
import Derived.Lib.LaidU8
set_option linter.unusedVariables false
set_option linter.unusedSimpArgs false
namespace TT
open Go Go.RowKit
def u8G (g3 g4:Nat):Gt:=⟨fun B w=>B g3∧B g4∧Lib.Utf8Tabs g3 g4 w,fun{B B' w w'} h hB hw=>by
 obtain⟨h1,h2,h3,h4⟩:=h
 refine⟨hB _ h1,hB _ h2,fun c hc=> ?_,fun i hi=> ?_⟩
 ·rw[←h3 c hc];exact Et (hw _ h1) c
 ·rw[←(h4 i hi).1,←(h4 i hi).2];exact⟨Et (hw _ h2) _,Et (hw _ h2) _⟩⟩
def d7 : Y3
 | [.t (.v (.string s))]=>some ⟨[.t (.v (.int .i32 (Lib.decodeGo s).1)), .t (.v (.int .i64 (Lib.decodeGo s).2))],[]⟩
 |_=>none
def je (s:ByteArray):Int×Int:=(((Lib.decodeGo s).1:Nat),((Lib.decodeGo s).2:Nat))
theorem vW (s:ByteArray) {r:Int×Int} {e:Int×Int→BD} (he:∀r,e r=⟨[.t (.v (.int .i32 r.1)), .t (.v (.int .i64 r.2))],[]⟩) (hr:some (je s)=some r):d7 [.t (.v (.string s))]=some (e r):=by
 cases hr
 rw[he];rfl
end TT
namespace TT
open Go Go.RowKit
def Gt.and (G H:Gt):Gt:=⟨fun B w=>G.ok B w∧H.ok B w,fun h hB hw=>⟨G.mono h.1 hB hw,H.mono h.2 hB hw⟩⟩
def ACY (g:Nat):Gt:=⟨fun B w=>B g∧∃m,w.cell? ⟨g,0,none⟩=some (.int .i64 m),fun{B B' w w'} h hB hw=>by
 obtain⟨h1,m,h2⟩:=h
 exact⟨hB _ h1,m,by rw[←h2];exact Et (hw _ h1) 0⟩⟩
def ACA (P:Program) (nm:String) (k:IntKind) (zs:List Int) (g:Nat) (hg:P.globalNamed nm=some g):Gt:=⟨fun B w=>B g∧Lib.TabIs P w nm k zs,fun{B B' w w'} h hB hw=>by
 obtain⟨h1,h2⟩:=h
 refine⟨hB _ h1, ?_⟩
 unfold Lib.TabIs World.var? at h2 ⊢
 rw[hg]at h2 ⊢
 simp only[Option.bind_some]at h2 ⊢
 rw[hw _ h1]
 exact h2⟩
theorem iK {G:Gt} {P:Program} {f:FuncId} {g3 g4:Nat} (hG:∀B w,G.ok B w→Lib.Utf8Tabs g3 g4 w) (hc:NN P f=true) (h:∀(s:ByteArray) (w:World),Lib.Utf8Tabs g3 g4 w→Calls P f #[.string s] w fun e w'=>e= .returned (.tuple #[.int .i32 (Lib.decodeGo s).1, .int .i64 (Lib.decodeGo s).2])∧Below w.heap.size w w'):Mm G P f d7:=L6 hc fun args res hr=>by
 unfold d7 at hr
 split at hr
 ·rename_i s
  cases hr
  refine⟨[.string s],[.int .i32 (Lib.decodeGo s).1, .int .i64 (Lib.decodeGo s).2],rfl,rfl,fun v hv=> ?_,fun w B hg=>h s w (hG B w hg)⟩
  simp only[List.mem_cons,List.not_mem_nil,or_false]at hv
  rcases hv with rfl|rfl<;>rfl
 ·cases hr
def vX (s t:ByteArray):ByteArray×ByteArray×Bool:=(⟨(Lib.cut s.data.toList t.data.toList).1.toArray⟩,⟨(Lib.cut s.data.toList t.data.toList).2.1.toArray⟩,(Lib.cut s.data.toList t.data.toList).2.2)
def vY : Y3
 | [.t (.v (.string s)), .t (.v (.string t))]=>if s.size<4294967281 then some ⟨[.t (.v (.string (vX s t).1)), .t (.v (.string (vX s t).2.1)), .t (.v (.bool (vX s t).2.2))],[]⟩else none
 |_=>none
theorem A4q (s t:ByteArray) {r:ByteArray×ByteArray×Bool} {e:ByteArray×ByteArray×Bool→BD} (he:∀r,e r=⟨[.t (.v (.string r.1)), .t (.v (.string r.2.1)), .t (.v (.bool r.2.2))],[]⟩) (hr:(if s.size<4294967281 then some (vX s t)else none)=some r):vY [.t (.v (.string s)), .t (.v (.string t))]=some (e r):=by
 split at hr
 ·rename_i h
  cases hr
  rw[he]
  simp only[vY,h,if_true]
 ·cases hr
theorem vZ {G:Gt} {P:Program} {f:FuncId} {g:Nat} (hG:∀B w,G.ok B w→∃m,w.cell? ⟨g,0,none⟩=some (.int .i64 m)) (hc:NN P f=true) (h:∀(s sep:ByteArray) (m:Int) (w:World),s.size<4294967281→w.cell? ⟨g,0,none⟩=some (.int .i64 m)→
  Calls P f #[.string s, .string sep] w fun e w'=>e= .returned (.tuple #[.string ⟨(Lib.cut s.data.toList sep.data.toList).1.toArray⟩, .string ⟨(Lib.cut s.data.toList sep.data.toList).2.1.toArray⟩, .bool (Lib.cut s.data.toList sep.data.toList).2.2])∧∃n,w'=w.drewN n):Mm G P f vY:=L6 hc fun args res hr=>by
 unfold vY at hr
 split at hr
 ·rename_i s t
  split at hr
  ·rename_i hs
   cases hr
   refine⟨[.string s, .string t],[.string (vX s t).1, .string (vX s t).2.1, .bool (vX s t).2.2],rfl,rfl,fun v hv=> ?_,fun w B hg=> ?_⟩
   ·simp only[List.mem_cons,List.not_mem_nil,or_false]at hv
    rcases hv with rfl|rfl|rfl<;>rfl
   ·obtain⟨m,hm⟩:=hG B w hg
    refine Calls.mono (h s t m w hs hm) ?_
    rintro e w' ⟨rfl,n,rfl⟩
    exact⟨rfl,⟨rfl,rfl,rfl,Nat.le_refl _,fun _ _=>rfl⟩⟩
  ·cases hr
 ·cases hr
def ka (n:Int):ByteArray:=⟨(Lib.itoa n).toArray⟩
def kb : Y3
 | [.t (.v (.int .i64 n))]=>if-9223372036854775808≤n∧n≤9223372036854775807 then some ⟨[.t (.v (.string (ka n)))],[]⟩else none
 |_=>none
theorem A1F (s:Int) {r:ByteArray} {e:ByteArray→BD} (he:∀r,e r=⟨[.t (.v (.string r))],[]⟩) (hr:(if-9223372036854775808≤s∧s≤9223372036854775807 then some (ka s)else none)=some r):kb [.t (.v (.int .i64 s))]=some (e r):=by
 split at hr
 ·rename_i h
  cases hr
  rw[he]
  simp only[kb,h,and_self,if_true]
 ·cases hr
theorem s7 {G:Gt} {P:Program} {f:FuncId} (hG:∀B w,G.ok B w→Lib.TabIs P w "internal/strconv.uint64pow10" .u64 Lib.pow10Tab) (hc:NN P f=true) (h:∀(n:Int),-9223372036854775808≤n→n≤9223372036854775807→∀(w:World),Lib.TabIs P w "internal/strconv.uint64pow10" .u64 Lib.pow10Tab→
  Calls P f #[.int .i64 n] w fun e w'=>e= .returned (.string ⟨(Lib.itoa n).toArray⟩)∧∃k os,w'=Go.Sort.grow (w.drewN k) os):Mm G P f kb:=L6 hc fun args res hr=>by
 unfold kb at hr
 split at hr
 ·rename_i n
  split at hr
  ·rename_i hn
   cases hr
   refine⟨[.int .i64 n],[.string (ka n)],rfl,rfl,fun v hv=> ?_,fun w B hg=> ?_⟩
   ·simp only[List.mem_cons,List.not_mem_nil,or_false]at hv
    subst hv;rfl
   ·refine Calls.mono (h n hn.1 hn.2 w (hG B w hg)) ?_
    rintro e w' ⟨rfl,k,os,rfl⟩
    exact⟨rfl,Lib.below_grow _ w (Nat.le_refl _) k os⟩
  ·cases hr
 ·cases hr
def GL (s t:ByteArray):Bool:=Lib.contains s.data.toList t.data.toList
def Tm : Y3
 | [.t (.v (.string s)), .t (.v (.string t))]=>if s.size<4294967281 then some ⟨[.t (.v (.bool (GL s t)))],[]⟩else none
 |_=>none
theorem o8 (s t:ByteArray) {r:Bool} {e:Bool→BD} (he:∀r,e r=⟨[.t (.v (.bool r))],[]⟩) (hr:(if s.size<4294967281 then some (GL s t)else none)=some r):Tm [.t (.v (.string s)), .t (.v (.string t))]=some (e r):=by
 split at hr
 ·rename_i h
  cases hr
  rw[he]
  simp only[Tm,h,if_true]
 ·cases hr
theorem fA {G:Gt} {P:Program} {f:FuncId} {g:Nat} (hG:∀B w,G.ok B w→∃m,w.cell? ⟨g,0,none⟩=some (.int .i64 m)) (hc:NN P f=true) (h:∀(s sub:ByteArray) (m:Int) (w:World),s.size<4294967281→w.cell? ⟨g,0,none⟩=some (.int .i64 m)→
  Calls P f #[.string s, .string sub] w fun e w'=>e= .returned (.bool (Lib.contains s.data.toList sub.data.toList))∧w'=w):Mm G P f Tm:=L6 hc fun args res hr=>by
 unfold Tm at hr
 split at hr
 ·rename_i s t
  split at hr
  ·rename_i hs
   cases hr
   refine⟨[.string s, .string t],[.bool (GL s t)],rfl,rfl,fun v hv=> ?_,fun w B hg=> ?_⟩
   ·simp only[List.mem_cons,List.not_mem_nil,or_false]at hv
    subst hv;rfl
   ·obtain⟨m,hm⟩:=hG B w hg
    refine Calls.mono (h s t m w hs hm) ?_
    rintro e w' ⟨rfl,rfl⟩
    exact⟨rfl,⟨rfl,rfl,rfl,Nat.le_refl _,fun _ _=>rfl⟩⟩
  ·cases hr
 ·cases hr
end TT
namespace TT
open Go Go.RowKit
theorem tabIs_of_reads {P:Program} {W:World} {nm:String} {k:IntKind} {zs:List Int} {d:DataW Unit} {g:Nat} {t e:TypeId} {n:Nat}
  (h:Lib.VarReads P W nm d) (hd:d=Lib.tabData k zs) (hg:P.globalNamed nm=some g) (hty:(P.globals[g]?).map (·.type)=some t) (ht:P.underlying t=some (.array n e)) (he:P.underlying e=some (.int k)) (hce:P.cellsOf e=1) (hct:P.cellsOf t=n):Lib.TabIs P W nm k zs:=by
 subst hd
 obtain⟨g1,t1,cs,fuel,p,e1,e2,e3,e4⟩:=h
 cases hg.symm.trans e1
 cases hty.symm.trans e2
 show W.var? P nm=_
 rw[e3,←Lib.cells_of_tab ht he hce hct e4]
theorem ret_shaped {H:Type} {enc:TypeId×Value→H} {a:Assume} {C:Checked} {os:Os} {f:FuncId} {fn:Func} {s:ChangeSpec} {conds:List PathCond} {apart fresh handsOn again:Bool} {X:World→Array Value→Prop}
  (hX:∀(w w':World) (args:Array Value),w.heap=w'.heap→X w args→X w' args)
  (own:ownKnob C.prog.godebug=none) (started:os.Started) (noInit:C.prog.inits.idxOf? f=none) (hfn:C.prog.funcs[f]? =some fn)
  (witness:∃(w:World) (tape:Tape) (i:Input),w.os=os∧(w.forCall tape i).Shaped C.prog∧i.vars=[]∧Input.okWide C.prog (w.forCall tape i) .any w.heap.size f i∧
    ((s.pre enc C.prog fn conds apart (w.forCall tape i).memory i.args∧X (w.forCall tape i).memory i.args)∧sizedMet enc C.prog fn (OpenSpec.ofChange s) apart (w.forCall tape i).memory i.args)∧a.holds C.prog (lone (Frame.enter C.prog f i.args .normal) [] (w.forCall tape i)))
  (walk:∀(W:World) (base:Nat) (args:Array Value) (ds gs:List (DataW H)) (before:List MemPlace),W.ShapedOpen C.prog→
    (∀(j:Nat) t v,fn.params[j]? =some t→args[j]? =some v→Value.okWide C.prog W .any base t v)→
    DataW.Whole enc C.prog fn.params.toList s.vars apart W args.toList ds gs before→
    (DataW.weightsEach C.prog (fn.params.toList++s.plain.varTypes C.prog) (ds++gs)).all (· ≤reachBytes)=true→X W args→
    Calls C.prog f args W fun e W'=>∃v,e= .returned v∧s.post enc C.prog fn apart fresh handsOn again W args v W'):
  ReturnsInHanded a C os f .any (fun w args=>(s.pre enc C.prog fn conds apart w args∧X w args)∧sizedMet enc C.prog fn (OpenSpec.ofChange s) apart w args) (s.post enc C.prog fn apart fresh handsOn again):=
 returnsInHanded_of_calls own started noInit witness fun w tape i _ hsh _ hok hpre _=>by
  obtain⟨_,_,_,g,hg,_,_,_,_,hval⟩:=hok
  cases Option.some.inj (hg.symm.trans hfn)
  obtain⟨⟨⟨ds,gs,before,hw,_⟩,hx⟩,hz⟩:=hpre
  have h:=walk (w.forCall tape i) w.heap.size i.args ds gs before hsh hval (DataW.Whole.of_heap (w:=(w.forCall tape i).memory) (w':=w.forCall tape i) (by rfl) hw) (hz.weights hw) (hX (w.forCall tape i).memory _ _ (by rfl) hx)
  refine h.mono fun e W' hq=> ?_
  obtain⟨v,rfl,hp⟩:=hq
  exact ChangeSpec.post_blind hp
end TT
