import Derived.Test.YtkbbbbeagnfliaaGreatDoorTP2Tree
import Derived.Test.YtkbbbbeagnfliaaGreatDoorTHX4
set_option linter.unusedVariables false
set_option linter.unusedSimpArgs false
namespace TT
open Go
def prs (l:List GDecl):List (ByteArray×ByteArray):=l.map fun x=>(x.Pre,x.Uri)
theorem A09 (l:List (ByteArray×ByteArray)) (x:ByteArray×ByteArray) (p:ByteArray):BE (l++[x]) p=if decide (x.1=p)then(x.2,true)else BE l p:=by
 simp only[BE,List.reverse_append,List.reverse_cons,List.reverse_nil,List.nil_append,List.cons_append,List.find?_cons]
 cases decide (x.1=p)<;>rfl
theorem ka (x y:ByteArray):Bq x y=decide (x=y):=by
 rw[Bool.eq_iff_iff,T9,decide_eq_true_iff]
theorem nT (l:List GDecl) (p:ByteArray) (hl:l.length≤4000000):∀k,k≤l.length→F9 l p ((k:Int)-1)=some (BE (prs (l.take k)) p)
 |0,_=>by
  rw[F9,bn (by omega)]
  simp only[bf,if_false,List.take_zero,prs,List.map_nil]
  rw[ka];rfl
 |k+1,h=>by
  have e:(((k+1:Nat):Int)-1)=(k:Int):=by omega
  have hx:l[k]? =some (l[k]'(by omega)):=List.getElem?_eq_getElem (by omega)
  have hg:AZ l (k:Int)=some (l[k]'(by omega)):=by
   unfold AZ
   rw[if_pos (by omega)]
   simp
  have ih:=nT l p hl k (by omega)
  rw[F9,e,Ub (by omega),hg,List.take_add_one,hx,P6 (by omega) (by omega),ih]
  simp only[if_true,A1,Option.toList_some,prs,List.map_append,List.map_cons,List.map_nil]
  rw[A09,ka]
  cases decide ((l[k]'(by omega)).Pre=p)<;>rfl
theorem cy (l:List GDecl) (p:ByteArray) (hl:l.length≤4000000):FP l p=some (BE (prs l) p):=by
 have e:AY (AF l) 1=((l.length:Int)-1):=P6 (by simp only[AF];omega) (by simp only[AF];omega)
 rw[FP,e,nT l p hl l.length (Nat.le_refl _),List.take_length]
theorem A0A (l m:List GDecl) (hl:l.length+m.length≤4000000):Tl l m=some (l++m):=by
 rw[Tl,FR (by omega) (by omega) (by omega),FR (by omega) (by omega) (by omega)]
 simp
theorem A2c (l:List GDecl):GV (l.map GDecl.row)=some (prs l):=by
 induction l with
 |nil=>rfl
 |cons x l ih=>
  show(GV (l.map GDecl.row)).map _=_
  rw[ih];rfl
def ats (l:List GAttr):List (ByteArray×ByteArray):=l.map fun x=>(x.Pre,x.Uri)
theorem A6E (l:List GAttr):Xl (l.map GAttr.row)=some (ats l):=by
 induction l with
 |nil=>rfl
 |cons x l ih=>
  show(Xl (l.map GAttr.row)).map _=_
  rw[ih];rfl
theorem sG (n:GNode) (own:List GDecl) (hl:n.Kids.length≤4000000) (hk:∀k∈n.Kids,∃b,Ej k own=some b∧RC (GNode.row false k) (prs own)=some b):∀(rest pre:List GNode),pre++rest=n.Kids→∃b,FA own pre.length n=some b∧Uk (rest.map (GNode.row false)) (prs own)=some b
 | [],pre,hp=>⟨true,by rw[FA,CZ hp];rfl,by simp only[List.map_nil,Uk]⟩
 |x::rest,pre,hp=>by
  obtain⟨b,h1,h2⟩:=hk x (by rw[←hp];simp)
  obtain⟨c,h3,h4⟩:=sG n own hl hk rest (pre++[x]) (CC hp)
  refine⟨b&&c, ?_,by simp only[List.map_cons,Uk,h2,h4]⟩
  rw[FA,BZ hp,BI hp,C2 hp (by rw[BB];omega)]
  simp only[if_true,A1,h1,h3]
  cases b<;>rfl
theorem sH (n:GNode) (own:List GDecl) (ho:own.length≤4000000) (hl:n.Attrs.length≤4000000) (c:Bool) (hc:FA own 0 n=some c):∀(rest pre:List GAttr),pre++rest=n.Attrs→FB own pre.length n=some ((ats rest).all (dY (prs own))&&c)
 | [],pre,hp=>by rw[FB,CZ hp];exact hc
 |x::rest,pre,hp=>by
  have ih:=sH n own ho hl c hc rest (pre++[x]) (CC hp)
  rw[FB,BZ hp,BI hp,C2 hp (by rw[BB];omega),ih]
  simp only[if_true,A1,cy _ _ ho,Ue,ats,List.map_cons,List.all_cons,dY,Uj,ka]
  cases decide (x.Pre=⟨#[]⟩)<;>cases (BE (prs own) x.Pre).2<;>cases decide ((BE (prs own) x.Pre).1=x.Uri)<;>simp
theorem A6F : ∀ n:GNode,n.sz≤1200000→∀l:List GDecl,l.length+n.sz≤4000000→∃b,Ej n l=some b∧RC (GNode.row false n) (prs l)=some b:=by
 refine GNode.ind' fun n ih hs l hb=> ?_
 have hz:=GNode.sz_eq n
 rw[hz]at hs hb
 have ho:(l++n.Decls).length≤4000000:=by rw[List.length_append];omega
 obtain⟨c,h1,h2⟩:=sG n (l++n.Decls) (by omega) (fun k hk=>ih k hk (by have:=BA GNode.sz hk;omega) (l++n.Decls) (by rw[List.length_append];have:=BA GNode.sz hk;omega)) n.Kids [] rfl
 have h3:=sH n (l++n.Decls) ho (by omega) c h1 n.Attrs [] rfl
 have h3':J5 (l++n.Decls) n=some ((ats n.Attrs).all (dY (prs (l++n.Decls)))&&c):=by rw[J5];exact h3
 have hp:prs l++prs n.Decls=prs (l++n.Decls):=by simp[prs]
 have hpl:(prs l++prs n.Decls).length≤4000000:=by rw[hp,prs,List.length_map];exact ho
 refine⟨((decide (n.Kind≠1)||Uj (prs (l++n.Decls)) n.Pre n.Uri)&&(ats n.Attrs).all (dY (prs (l++n.Decls))))&&c, ?_, ?_⟩
 rotate_left
 ·rw[GNode.row_eq,RC,A2c,A6E]
  rw[hp]at hpl
  simp only[hp,h2]
  rw[if_pos hpl]
 ·rw[Ej,A0A _ _ (by rw[List.length_append]at ho;exact ho)]
  simp only[A1,cy _ _ ho,h3',Ue,Uj,ka]
  cases hk:AX n.Kind 1 with
  |false=>
   have hne:decide (n.Kind≠1)=true:=decide_eq_true fun e=>by rw[RM e]at hk;cases hk
   rw[hne]
   simp
  |true=>
   have hne:decide (n.Kind≠1)=false:=decide_eq_false fun e=>e (ZW.1 hk)
   rw[hne]
   cases (BE (prs (l++n.Decls)) n.Pre).2<;>cases decide ((BE (prs (l++n.Decls)) n.Pre).1=n.Uri)<;>simp
def xc (n:GNode) (l:List GDecl):Bool:=(Ej n l).getD false
theorem A6G (n:GNode) (l:List GDecl) (hs:n.sz≤1200000) (hb:l.length+n.sz≤4000000):Ej n l=some (xc n l)∧RG n l=some (xc n l):=by
 obtain⟨b,h1,h2⟩:=A6F n hs l hb
 have e:xc n l=b:=by rw[xc,h1];rfl
 exact⟨by rw[h1,e],by rw[RG,e];exact h2⟩
end TT
namespace TT
open Go
def xe (n:GNode):Bool:=AX n.Kind 0&&(bo n&&xc n [])
theorem AC7 (n:GNode) (hs:n.sz≤1200000):MQ n=some (xe n)∧MW n=some (xe n):=by
 obtain⟨n1,n2⟩:=A08 n hs
 obtain⟨f1,f2⟩:=A6G n [] hs (by simp;omega)
 constructor
 ·rw[MQ,n1,f1,xe]
  simp only[A1]
  cases AX n.Kind 0<;>cases bo n<;>rfl
 ·rw[MW,n2,f2,xe]
  simp only[A1]
  cases AX n.Kind 0<;>cases bo n<;>rfl
end TT
