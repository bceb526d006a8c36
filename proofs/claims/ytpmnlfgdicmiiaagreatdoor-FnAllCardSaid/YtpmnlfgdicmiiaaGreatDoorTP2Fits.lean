import Derived.Test.YtpmnlfgdicmiiaaGreatDoorTP2Tree
import Derived.Test.YtpmnlfgdicmiiaaGreatDoorTHX4
set_option linter.unusedVariables false
set_option linter.unusedSimpArgs false
namespace TT
open Go
def prs (l:List A1):List (ByteArray×ByteArray):=l.map fun x=>(x.Pre,x.Uri)
theorem rr (l:List (ByteArray×ByteArray)) (x:ByteArray×ByteArray) (p:ByteArray):GL (l++[x]) p=if decide (x.1=p)then(x.2,true)else GL l p:=by
 simp only[GL,List.reverse_append,List.reverse_cons,List.reverse_nil,List.nil_append,List.cons_append,List.find?_cons]
 cases decide (x.1=p)<;>rfl
theorem bq (x y:ByteArray):D5 x y=decide (x=y):=by
 rw[Bool.eq_iff_iff,TX,decide_eq_true_iff]
theorem ef (l:List A1) (p:ByteArray) (hl:l.length≤4000000):∀k,k≤l.length→BS l p ((k:Int)-1)=some (GL (prs (l.take k)) p)
 |0,_=>by
  rw[BS,Tz (by omega)]
  simp only[Bool.false_eq_true,if_false,List.take_zero,prs,List.map_nil]
  rw[bq];rfl
 |k+1,h=>by
  have e:(((k+1:Nat):Int)-1)=(k:Int):=by omega
  have hx:l[k]? =some (l[k]'(by omega)):=List.getElem?_eq_getElem (by omega)
  have hg:getI l (k:Int)=some (l[k]'(by omega)):=by
   unfold getI
   rw[if_pos (by omega)]
   simp
  have ih:=ef l p hl k (by omega)
  rw[BS,e,RW (by omega),hg,List.take_add_one,hx,DC (by omega) (by omega),ih]
  simp only[if_true,A6,Option.toList_some,prs,List.map_append,List.map_cons,List.map_nil]
  rw[rr,bq]
  cases decide ((l[k]'(by omega)).Pre=p)<;>rfl
theorem eh (l:List A1) (p:ByteArray) (hl:l.length≤4000000):BP l p=some (GL (prs l) p):=by
 have e:CH (AD l) 1=((l.length:Int)-1):=DC (by simp only[AD];omega) (by simp only[AD];omega)
 rw[BP,e,ef l p hl l.length (Nat.le_refl _),List.take_length]
theorem rt (l m:List A1) (hl:l.length+m.length≤4000000):EY l m=some (l++m):=by
 rw[EY,Gj (by omega) (by omega) (by omega),Gj (by omega) (by omega) (by omega)]
 simp
theorem vS (l:List A1):Fp (l.map A1.row)=some (prs l):=by
 induction l with
 |nil=>rfl
 |cons x l ih=>
  show(Fp (l.map A1.row)).map _=_
  rw[ih];rfl
def ats (l:List A3):List (ByteArray×ByteArray):=l.map fun x=>(x.Pre,x.Uri)
theorem A04 (l:List A3):UZ (l.map A3.row)=some (ats l):=by
 induction l with
 |nil=>rfl
 |cons x l ih=>
  show(UZ (l.map A3.row)).map _=_
  rw[ih];rfl
theorem jf (n:A0) (own:List A1) (hl:n.Kids.length≤4000000) (hk:∀k∈n.Kids,∃b,Bb k own=some b∧OQ (A0.row false k) (prs own)=some b):∀(rest pre:List A0),pre++rest=n.Kids→∃b,AY own pre.length n=some b∧Rc (rest.map (A0.row false)) (prs own)=some b
 | [],pre,hp=>⟨true,by rw[AY,EO hp];rfl,by simp only[List.map_nil,Rc]⟩
 |x::rest,pre,hp=>by
  obtain⟨b,h1,h2⟩:=hk x (by rw[←hp];simp)
  obtain⟨c,h3,h4⟩:=jf n own hl hk rest (pre++[x]) (Cl hp)
  refine⟨b&&c, ?_,by simp only[List.map_cons,Rc,h2,h4]⟩
  rw[AY,DD hp,BY hp,Ck hp (by rw[B4];omega)]
  simp only[if_true,A6,h1,h3]
  cases b<;>rfl
theorem jg (n:A0) (own:List A1) (ho:own.length≤4000000) (hl:n.Attrs.length≤4000000) (c:Bool) (hc:AY own 0 n=some c):∀(rest pre:List A3),pre++rest=n.Attrs→B5 own pre.length n=some ((ats rest).all (Y6 (prs own))&&c)
 | [],pre,hp=>by rw[B5,EO hp];exact hc
 |x::rest,pre,hp=>by
  have ih:=jg n own ho hl c hc rest (pre++[x]) (Cl hp)
  rw[B5,DD hp,BY hp,Ck hp (by rw[B4];omega),ih]
  simp only[if_true,A6,eh _ _ ho,OG,ats,List.map_cons,List.all_cons,Y6,Rb,bq]
  cases decide (x.Pre=⟨#[]⟩)<;>cases (GL (prs own) x.Pre).2<;>cases decide ((GL (prs own) x.Pre).1=x.Uri)<;>simp
theorem A05 : ∀ n:A0,n.sz≤1048576→∀l:List A1,l.length+n.sz≤4000000→∃b,Bb n l=some b∧OQ (A0.row false n) (prs l)=some b:=by
 refine A0.ind' fun n ih hs l hb=> ?_
 have hz:=A0.sz_eq n
 rw[hz]at hs hb
 have ho:(l++n.Decls).length≤4000000:=by rw[List.length_append];omega
 obtain⟨c,h1,h2⟩:=jf n (l++n.Decls) (by omega) (fun k hk=>ih k hk (by have:=Dq A0.sz hk;omega) (l++n.Decls) (by rw[List.length_append];have:=Dq A0.sz hk;omega)) n.Kids [] rfl
 have h3:=jg n (l++n.Decls) ho (by omega) c h1 n.Attrs [] rfl
 have h3':Bx (l++n.Decls) n=some ((ats n.Attrs).all (Y6 (prs (l++n.Decls)))&&c):=by rw[Bx];exact h3
 have hp:prs l++prs n.Decls=prs (l++n.Decls):=by simp[prs]
 have hpl:(prs l++prs n.Decls).length≤4000000:=by rw[hp,prs,List.length_map];exact ho
 refine⟨((decide (n.Kind≠1)||Rb (prs (l++n.Decls)) n.Pre n.Uri)&&(ats n.Attrs).all (Y6 (prs (l++n.Decls))))&&c, ?_, ?_⟩
 rotate_left
 ·rw[A0.row_eq,OQ,vS,A04]
  rw[hp]at hpl
  simp only[hp,h2]
  rw[if_pos hpl]
 ·rw[Bb,rt _ _ (by rw[List.length_append]at ho;exact ho)]
  simp only[A6,eh _ _ ho,h3',OG,Rb,bq]
  cases hk:Af n.Kind 1 with
  |false=>
   have hne:decide (n.Kind≠1)=true:=decide_eq_true fun e=>by rw[U0 e]at hk;cases hk
   rw[hne]
   simp
  |true=>
   have hne:decide (n.Kind≠1)=false:=decide_eq_false fun e=>e (Yt.1 hk)
   rw[hne]
   cases (GL (prs (l++n.Decls)) n.Pre).2<;>cases decide ((GL (prs (l++n.Decls)) n.Pre).1=n.Uri)<;>simp
def A06 (n:A0) (l:List A1):Bool:=(Bb n l).getD false
theorem A6a (n:A0) (l:List A1) (hs:n.sz≤1048576) (hb:l.length+n.sz≤4000000):Bb n l=some (A06 n l)∧RP n l=some (A06 n l):=by
 obtain⟨b,h1,h2⟩:=A05 n hs l hb
 have e:A06 n l=b:=by rw[A06,h1];rfl
 exact⟨by rw[h1,e],by rw[RP,e];exact h2⟩
end TT
namespace TT
open Go
def VP (n:A0):Bool:=Af n.Kind 0&&(ed n&&A06 n [])
theorem ru (n:A0) (hs:n.sz≤1048576):Ev n=some (VP n)∧Io n=some (VP n):=by
 obtain⟨n1,n2⟩:=A03 n hs
 obtain⟨f1,f2⟩:=A6a n [] hs (by simp;omega)
 constructor
 ·rw[Ev,n1,f1,VP]
  simp only[A6]
  cases Af n.Kind 0<;>cases ed n<;>rfl
 ·rw[Io,n2,f2,VP]
  simp only[A6]
  cases Af n.Kind 0<;>cases ed n<;>rfl
end TT
