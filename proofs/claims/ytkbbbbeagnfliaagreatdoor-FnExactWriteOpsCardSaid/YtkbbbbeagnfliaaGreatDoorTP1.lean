import Derived.Test.YtkbbbbeagnfliaaGreatDoorTP0
import Derived.Test.YtkbbbbeagnfliaaGreatDoorTDefs
set_option linter.unusedVariables false
set_option linter.unusedSimpArgs false
namespace TT
open Go
def GPred.sz (x:GPred):Nat:=x.Pre.size+(x.Local.size+(x.Val.size))
theorem GPred.sz_eq (x:GPred):x.sz=x.Pre.size+(x.Local.size+(x.Val.size)):=rfl
def GPred.ok (x:GPred):Prop:=(-9223372036854775808≤x.Kind∧x.Kind<9223372036854775808)∧(-9223372036854775808≤x.N∧x.N<9223372036854775808)∧x.Pre.size≤maxLen∧x.Local.size≤maxLen∧x.Val.size≤maxLen
theorem GPred.ok_iff (x:GPred):x.ok↔(-9223372036854775808≤x.Kind∧x.Kind<9223372036854775808)∧(-9223372036854775808≤x.N∧x.N<9223372036854775808)∧x.Pre.size≤maxLen∧x.Local.size≤maxLen∧x.Val.size≤maxLen:=Iff.rfl
theorem A5r (a:GPred) (ha:a.ok) (l:Int) (h0:0≤l) (h1:l≤1048576):ME a l=some (Uc l a.sz):=by
 obtain⟨H0,H1,H2,H3,H4⟩:=(GPred.ok_iff a).1 ha
 rw[ME,GPred.sz_eq]
 exact szK a.Pre.size (fun l=>if BV (AY l (AL a.Local)) 0 then some (-1)else if BV (AY (AY l (AL a.Local)) (AL a.Val)) 0 then some (-1)else some (AY (AY l (AL a.Local)) (AL a.Val))) (a.Local.size+(a.Val.size)) h0 h1 H2 (fun l h0 h1=>by
  exact szK a.Local.size (fun l=>if BV (AY l (AL a.Val)) 0 then some (-1)else some (AY l (AL a.Val))) (a.Val.size) h0 h1 H3 (fun l h0 h1=>by
   exact szE a.Val.size h0 h1 H4))
theorem A2I (a:List GPred) (hl:a.length≤maxLen) (ha:∀y∈a,GPred.ok y) (l:Int) (h0:0≤l) (h1:l≤1048576):FO a l=some (Uc l (a.length+FG GPred.sz a)):=
 WW FO Fa ME GPred.sz (fun a l=>by rw[FO]) (fun a l i=>by rw[Fa]) a hl (fun x hx=>A5r x (ha x hx)) h0 h1
theorem A5s (a:GPred) (hs:a.sz≤1048576):MI a=some a:=by
 rw[GPred.sz_eq]at hs
 simp[MI,rj]
theorem A5t (a:GPred) (hs:a.sz≤1200000):MX a a=some true:=by
 rw[GPred.sz_eq]at hs
 simp[MX,RN,P8,RO]
theorem A2J (a:List GPred) (hl:a.length≤1048576) (ha:∀y∈a,GPred.sz y≤1048576):Jc a=some a:=by
 have:=WX Jc GI MI id _ 64 (fun a=>by rw[Jc]) (fun a out i=>by rw[GI]) (by decide) (by decide) a hl (fun x hx=>A5s x (ha x hx))
 simpa using this
theorem A2K (a:List GPred) (hl:a.length≤1200000) (ha:∀y∈a,GPred.sz y≤1200000):Jo a a=some true:=
 WY Jo Fg MX (fun a b=>by rw[Jo]) (fun a b i=>by rw[Fg]) a (Nat.le_trans hl (by decide)) (fun x hx=>A5t x (ha x hx))
def GStp.sz (x:GStp):Nat:=x.Pre.size+(x.Local.size+((x.Preds.length+FG GPred.sz x.Preds)))
theorem GStp.sz_eq (x:GStp):x.sz=x.Pre.size+(x.Local.size+((x.Preds.length+FG GPred.sz x.Preds))):=rfl
def GStp.ok (x:GStp):Prop:=(-9223372036854775808≤x.Kind∧x.Kind<9223372036854775808)∧x.Pre.size≤maxLen∧x.Local.size≤maxLen∧(x.Preds.length≤maxLen∧∀y∈x.Preds,GPred.ok y)
theorem GStp.ok_iff (x:GStp):x.ok↔(-9223372036854775808≤x.Kind∧x.Kind<9223372036854775808)∧x.Pre.size≤maxLen∧x.Local.size≤maxLen∧(x.Preds.length≤maxLen∧∀y∈x.Preds,GPred.ok y):=Iff.rfl
theorem A9E (a:GStp) (ha:a.ok) (l:Int) (h0:0≤l) (h1:l≤1048576):MF a l=some (Uc l a.sz):=by
 obtain⟨H0,H1,H2,H3⟩:=(GStp.ok_iff a).1 ha
 rw[MF,GStp.sz_eq]
 exact szK a.Pre.size (fun l=>if BV (AY l (AL a.Local)) 0 then some (-1)else FO a.Preds (AY l (AL a.Local))>>=fun r2=>if BV r2 0 then some (-1)else some r2) (a.Local.size+((a.Preds.length+FG GPred.sz a.Preds))) h0 h1 H1 (fun l h0 h1=>by
  exact szK a.Local.size (fun l=>FO a.Preds l>>=fun r2=>if BV r2 0 then some (-1)else some r2) ((a.Preds.length+FG GPred.sz a.Preds)) h0 h1 H2 (fun l h0 h1=>by
   have:=szB (fun l=>FO a.Preds l) ((a.Preds.length+FG GPred.sz a.Preds)) some 0 h0 h1 (A2I a.Preds H3.1 H3.2 l h0 h1) (fun l h0 h1=>szD h0)
   simpa using this))
theorem A5u (a:List GStp) (hl:a.length≤maxLen) (ha:∀y∈a,GStp.ok y) (l:Int) (h0:0≤l) (h1:l≤1048576):Gd a l=some (Uc l (a.length+FG GStp.sz a)):=
 WW Gd Fb MF GStp.sz (fun a l=>by rw[Gd]) (fun a l i=>by rw[Fb]) a hl (fun x hx=>A9E x (ha x hx)) h0 h1
theorem A9F (a:GStp) (hs:a.sz≤1048576):MJ a=some a:=by
 rw[GStp.sz_eq]at hs
 have L2:=A2J a.Preds (by omega) (fun x hx=>by have:=BA GPred.sz hx;omega)
 simp[MJ,L2,xG]
theorem A9G (a:GStp) (hs:a.sz≤1200000):MY a a=some true:=by
 rw[GStp.sz_eq]at hs
 have L2:=A2K a.Preds (by omega) (fun x hx=>by have:=BA GPred.sz hx;omega)
 simp[MY,L2,RN,P8,RO]
theorem A5v (a:List GStp) (hl:a.length≤1048576) (ha:∀y∈a,GStp.sz y≤1048576):Jd a=some a:=by
 have:=WX Jd GJ MJ id _ 72 (fun a=>by rw[Jd]) (fun a out i=>by rw[GJ]) (by decide) (by decide) a hl (fun x hx=>A9F x (ha x hx))
 simpa using this
theorem A5w (a:List GStp) (hl:a.length≤1200000) (ha:∀y∈a,GStp.sz y≤1200000):Jp a a=some true:=
 WY Jp Fh MY (fun a b=>by rw[Jp]) (fun a b i=>by rw[Fh]) a (Nat.le_trans hl (by decide)) (fun x hx=>A9G x (ha x hx))
def GSel.sz (x:GSel):Nat:=x.Id.size+((x.Steps.length+FG GStp.sz x.Steps))
theorem GSel.sz_eq (x:GSel):x.sz=x.Id.size+((x.Steps.length+FG GStp.sz x.Steps)):=rfl
def GSel.ok (x:GSel):Prop:=x.Id.size≤maxLen∧(x.Steps.length≤maxLen∧∀y∈x.Steps,GStp.ok y)
theorem GSel.ok_iff (x:GSel):x.ok↔x.Id.size≤maxLen∧(x.Steps.length≤maxLen∧∀y∈x.Steps,GStp.ok y):=Iff.rfl
theorem A9H (a:GSel) (ha:a.ok) (l:Int) (h0:0≤l) (h1:l≤1048576):Ps a l=some (Uc l a.sz):=by
 obtain⟨H0,H1⟩:=(GSel.ok_iff a).1 ha
 rw[Ps,GSel.sz_eq]
 exact szK a.Id.size (fun l=>Gd a.Steps l>>=fun r1=>if BV r1 0 then some (-1)else some r1) ((a.Steps.length+FG GStp.sz a.Steps)) h0 h1 H0 (fun l h0 h1=>by
  have:=szB (fun l=>Gd a.Steps l) ((a.Steps.length+FG GStp.sz a.Steps)) some 0 h0 h1 (A5u a.Steps H1.1 H1.2 l h0 h1) (fun l h0 h1=>szD h0)
  simpa using this)
theorem A9I (a:GSel) (hs:a.sz≤1048576):Tj a=some a:=by
 rw[GSel.sz_eq]at hs
 have L1:=A5v a.Steps (by omega) (fun x hx=>by have:=BA GStp.sz hx;omega)
 simp[Tj,L1,xH]
theorem A9J (a:GSel) (hs:a.sz≤1200000):Tm a a=some true:=by
 rw[GSel.sz_eq]at hs
 have L1:=A5w a.Steps (by omega) (fun x hx=>by have:=BA GStp.sz hx;omega)
 simp[Tm,L1,RN,P8,RO]
def GDecl.sz (x:GDecl):Nat:=x.Pre.size+(x.Uri.size)
theorem GDecl.sz_eq (x:GDecl):x.sz=x.Pre.size+(x.Uri.size):=rfl
def GDecl.ok (x:GDecl):Prop:=x.Pre.size≤maxLen∧x.Uri.size≤maxLen
theorem GDecl.ok_iff (x:GDecl):x.ok↔x.Pre.size≤maxLen∧x.Uri.size≤maxLen:=Iff.rfl
theorem A5x (a:GDecl) (ha:a.ok) (l:Int) (h0:0≤l) (h1:l≤1048576):MG a l=some (Uc l a.sz):=by
 obtain⟨H0,H1⟩:=(GDecl.ok_iff a).1 ha
 rw[MG,GDecl.sz_eq]
 exact szK a.Pre.size (fun l=>if BV (AY l (AL a.Uri)) 0 then some (-1)else some (AY l (AL a.Uri))) (a.Uri.size) h0 h1 H0 (fun l h0 h1=>by
  exact szE a.Uri.size h0 h1 H1)
theorem ru (a:List GDecl) (hl:a.length≤maxLen) (ha:∀y∈a,GDecl.ok y) (l:Int) (h0:0≤l) (h1:l≤1048576):Bt a l=some (Uc l (a.length+FG GDecl.sz a)):=
 WW Bt Fc MG GDecl.sz (fun a l=>by rw[Bt]) (fun a l i=>by rw[Fc]) a hl (fun x hx=>A5x x (ha x hx)) h0 h1
theorem A5y (a:GDecl) (hs:a.sz≤1048576):MK a=some a:=by
 rw[GDecl.sz_eq]at hs
 simp[MK,rl]
theorem A5z (a:GDecl) (hs:a.sz≤1200000):MZ a a=some true:=by
 rw[GDecl.sz_eq]at hs
 simp[MZ,RN,P8,RO]
theorem rz (a:List GDecl) (hl:a.length≤1048576) (ha:∀y∈a,GDecl.sz y≤1048576):Hz a=some a:=by
 have:=WX Hz GK MK id _ 32 (fun a=>by rw[Hz]) (fun a out i=>by rw[GK]) (by decide) (by decide) a hl (fun x hx=>A5y x (ha x hx))
 simpa using this
theorem s7 (a:List GDecl) (hl:a.length≤1200000) (ha:∀y∈a,GDecl.sz y≤1200000):I7 a a=some true:=
 WY I7 Fi MZ (fun a b=>by rw[I7]) (fun a b i=>by rw[Fi]) a (Nat.le_trans hl (by decide)) (fun x hx=>A5z x (ha x hx))
def GAttr.sz (x:GAttr):Nat:=x.Pre.size+(x.Local.size+(x.Uri.size+(x.Val.size)))
theorem GAttr.sz_eq (x:GAttr):x.sz=x.Pre.size+(x.Local.size+(x.Uri.size+(x.Val.size))):=rfl
def GAttr.ok (x:GAttr):Prop:=x.Pre.size≤maxLen∧x.Local.size≤maxLen∧x.Uri.size≤maxLen∧x.Val.size≤maxLen
theorem GAttr.ok_iff (x:GAttr):x.ok↔x.Pre.size≤maxLen∧x.Local.size≤maxLen∧x.Uri.size≤maxLen∧x.Val.size≤maxLen:=Iff.rfl
theorem A60 (a:GAttr) (ha:a.ok) (l:Int) (h0:0≤l) (h1:l≤1048576):MH a l=some (Uc l a.sz):=by
 obtain⟨H0,H1,H2,H3⟩:=(GAttr.ok_iff a).1 ha
 rw[MH,GAttr.sz_eq]
 exact szK a.Pre.size (fun l=>if BV (AY l (AL a.Local)) 0 then some (-1)else if BV (AY (AY l (AL a.Local)) (AL a.Uri)) 0 then some (-1)else if BV (AY (AY (AY l (AL a.Local)) (AL a.Uri)) (AL a.Val)) 0 then some (-1)else some (AY (AY (AY l (AL a.Local)) (AL a.Uri)) (AL a.Val))) (a.Local.size+(a.Uri.size+(a.Val.size))) h0 h1 H0 (fun l h0 h1=>by
  exact szK a.Local.size (fun l=>if BV (AY l (AL a.Uri)) 0 then some (-1)else if BV (AY (AY l (AL a.Uri)) (AL a.Val)) 0 then some (-1)else some (AY (AY l (AL a.Uri)) (AL a.Val))) (a.Uri.size+(a.Val.size)) h0 h1 H1 (fun l h0 h1=>by
   exact szK a.Uri.size (fun l=>if BV (AY l (AL a.Val)) 0 then some (-1)else some (AY l (AL a.Val))) (a.Val.size) h0 h1 H2 (fun l h0 h1=>by
    exact szE a.Val.size h0 h1 H3)))
theorem A2L (a:List GAttr) (hl:a.length≤maxLen) (ha:∀y∈a,GAttr.ok y) (l:Int) (h0:0≤l) (h1:l≤1048576):Do a l=some (Uc l (a.length+FG GAttr.sz a)):=
 WW Do Fd MH GAttr.sz (fun a l=>by rw[Do]) (fun a l i=>by rw[Fd]) a hl (fun x hx=>A60 x (ha x hx)) h0 h1
theorem A61 (a:GAttr) (hs:a.sz≤1048576):ML a=some a:=by
 rw[GAttr.sz_eq]at hs
 simp[ML,ro]
theorem A62 (a:GAttr) (hs:a.sz≤1200000):Ma a a=some true:=by
 rw[GAttr.sz_eq]at hs
 simp[Ma,RN,P8,RO]
theorem A2M (a:List GAttr) (hl:a.length≤1048576) (ha:∀y∈a,GAttr.sz y≤1048576):Je a=some a:=by
 have:=WX Je GL ML id _ 64 (fun a=>by rw[Je]) (fun a out i=>by rw[GL]) (by decide) (by decide) a hl (fun x hx=>A61 x (ha x hx))
 simpa using this
theorem A2N (a:List GAttr) (hl:a.length≤1200000) (ha:∀y∈a,GAttr.sz y≤1200000):Jq a a=some true:=
 WY Jq Fj Ma (fun a b=>by rw[Jq]) (fun a b i=>by rw[Fj]) a (Nat.le_trans hl (by decide)) (fun x hx=>A62 x (ha x hx))
mutual
def GNode.sz : GNode→Nat
 |⟨kind',pre',local',uri',decls',attrs',kids',text'⟩=>pre'.size+(local'.size+(uri'.size+((decls'.length+FG GDecl.sz decls')+((attrs'.length+FG GAttr.sz attrs')+((kids'.length+GNode.szL kids')+(text'.size))))))
def GNode.szL : List GNode→Nat
 | []=>0
 |x::l=>GNode.sz x+GNode.szL l
end
theorem GNode.szL_eq (l:List GNode):GNode.szL l=FG GNode.sz l:=by
 induction l with
 |nil=>rfl
 |cons x l ih=>rw[GNode.szL,DI,ih]
theorem GNode.sz_eq (x:GNode):x.sz=x.Pre.size+(x.Local.size+(x.Uri.size+((x.Decls.length+FG GDecl.sz x.Decls)+((x.Attrs.length+FG GAttr.sz x.Attrs)+((x.Kids.length+FG GNode.sz x.Kids)+(x.Text.size)))))):=by cases x;rw[GNode.sz,GNode.szL_eq]
mutual
def GNode.ok : GNode→Prop
 |⟨kind',pre',local',uri',decls',attrs',kids',text'⟩=>(-9223372036854775808≤kind'∧kind'<9223372036854775808)∧pre'.size≤maxLen∧local'.size≤maxLen∧uri'.size≤maxLen∧(decls'.length≤maxLen∧∀y∈decls',GDecl.ok y)∧(attrs'.length≤maxLen∧∀y∈attrs',GAttr.ok y)∧(kids'.length≤maxLen∧GNode.okL kids')∧text'.size≤maxLen
def GNode.okL : List GNode→Prop
 | []=>True
 |x::l=>GNode.ok x∧GNode.okL l
end
theorem GNode.okL_iff (l:List GNode):GNode.okL l↔∀y∈l,GNode.ok y:=by
 induction l with
 |nil=>simp[GNode.okL]
 |cons x l ih=>simp[GNode.okL,ih]
theorem GNode.ok_iff (x:GNode):x.ok↔(-9223372036854775808≤x.Kind∧x.Kind<9223372036854775808)∧x.Pre.size≤maxLen∧x.Local.size≤maxLen∧x.Uri.size≤maxLen∧(x.Decls.length≤maxLen∧∀y∈x.Decls,GDecl.ok y)∧(x.Attrs.length≤maxLen∧∀y∈x.Attrs,GAttr.ok y)∧(x.Kids.length≤maxLen∧∀y∈x.Kids,GNode.ok y)∧x.Text.size≤maxLen:=by cases x;rw[GNode.ok,GNode.okL_iff]
mutual
theorem GNode.ind' {p:GNode→Prop} (h:∀x,(∀k∈x.Kids,p k)→p x):∀x,p x
 |⟨kind',pre',local',uri',decls',attrs',kids',text'⟩=>h _ (GNode.indL' h kids')
theorem GNode.indL' {p:GNode→Prop} (h:∀x,(∀k∈x.Kids,p k)→p x):∀l:List GNode,∀k∈l,p k
 | [],k,hk=>by cases hk
 |y::l,k,hk=>by
  rcases List.mem_cons.1 hk with e|e
  ·rw[e];exact GNode.ind' h y
  ·exact GNode.indL' h l k e
end
theorem A63 : ∀ (a:GNode),a.ok→∀(l:Int),0≤l→l≤1048576→Hi a l=some (Uc l a.sz):=by
 refine GNode.ind' fun a ih=> ?_
 intro ha l h0 h1
 obtain⟨H0,H1,H2,H3,H4,H5,H6,H7⟩:=(GNode.ok_iff a).1 ha
 have HS:∀l,0≤l→l≤1048576→BG a.Kids l=some (Uc l (a.Kids.length+FG GNode.sz a.Kids)):=fun l h0 h1=>WW BG EH Hi GNode.sz (fun a l=>by rw[BG]) (fun a l i=>by rw[EH]) a.Kids H6.1 (fun x hx=>ih x hx (H6.2 x hx)) h0 h1
 rw[Hi,GNode.sz_eq]
 exact szK a.Pre.size (fun l=>if BV (AY l (AL a.Local)) 0 then some (-1)else if BV (AY (AY l (AL a.Local)) (AL a.Uri)) 0 then some (-1)else Bt a.Decls (AY (AY l (AL a.Local)) (AL a.Uri))>>=fun r3=>if BV r3 0 then some (-1)else Do a.Attrs r3>>=fun r4=>if BV r4 0 then some (-1)else BG a.Kids r4>>=fun r5=>if BV r5 0 then some (-1)else if BV (AY r5 (AL a.Text)) 0 then some (-1)else some (AY r5 (AL a.Text))) (a.Local.size+(a.Uri.size+((a.Decls.length+FG GDecl.sz a.Decls)+((a.Attrs.length+FG GAttr.sz a.Attrs)+((a.Kids.length+FG GNode.sz a.Kids)+(a.Text.size)))))) h0 h1 H1 (fun l h0 h1=>by
  exact szK a.Local.size (fun l=>if BV (AY l (AL a.Uri)) 0 then some (-1)else Bt a.Decls (AY l (AL a.Uri))>>=fun r3=>if BV r3 0 then some (-1)else Do a.Attrs r3>>=fun r4=>if BV r4 0 then some (-1)else BG a.Kids r4>>=fun r5=>if BV r5 0 then some (-1)else if BV (AY r5 (AL a.Text)) 0 then some (-1)else some (AY r5 (AL a.Text))) (a.Uri.size+((a.Decls.length+FG GDecl.sz a.Decls)+((a.Attrs.length+FG GAttr.sz a.Attrs)+((a.Kids.length+FG GNode.sz a.Kids)+(a.Text.size))))) h0 h1 H2 (fun l h0 h1=>by
   exact szK a.Uri.size (fun l=>Bt a.Decls l>>=fun r3=>if BV r3 0 then some (-1)else Do a.Attrs r3>>=fun r4=>if BV r4 0 then some (-1)else BG a.Kids r4>>=fun r5=>if BV r5 0 then some (-1)else if BV (AY r5 (AL a.Text)) 0 then some (-1)else some (AY r5 (AL a.Text))) ((a.Decls.length+FG GDecl.sz a.Decls)+((a.Attrs.length+FG GAttr.sz a.Attrs)+((a.Kids.length+FG GNode.sz a.Kids)+(a.Text.size)))) h0 h1 H3 (fun l h0 h1=>by
    exact szB (fun l=>Bt a.Decls l) ((a.Decls.length+FG GDecl.sz a.Decls)) (fun l=>Do a.Attrs l>>=fun r4=>if BV r4 0 then some (-1)else BG a.Kids r4>>=fun r5=>if BV r5 0 then some (-1)else if BV (AY r5 (AL a.Text)) 0 then some (-1)else some (AY r5 (AL a.Text))) ((a.Attrs.length+FG GAttr.sz a.Attrs)+((a.Kids.length+FG GNode.sz a.Kids)+(a.Text.size))) h0 h1 (ru a.Decls H4.1 H4.2 l h0 h1) (fun l h0 h1=>by
     exact szB (fun l=>Do a.Attrs l) ((a.Attrs.length+FG GAttr.sz a.Attrs)) (fun l=>BG a.Kids l>>=fun r5=>if BV r5 0 then some (-1)else if BV (AY r5 (AL a.Text)) 0 then some (-1)else some (AY r5 (AL a.Text))) ((a.Kids.length+FG GNode.sz a.Kids)+(a.Text.size)) h0 h1 (A2L a.Attrs H5.1 H5.2 l h0 h1) (fun l h0 h1=>by
      exact szB (fun l=>BG a.Kids l) ((a.Kids.length+FG GNode.sz a.Kids)) (fun l=>if BV (AY l (AL a.Text)) 0 then some (-1)else some (AY l (AL a.Text))) (a.Text.size) h0 h1 (HS l h0 h1) (fun l h0 h1=>by
       exact szE a.Text.size h0 h1 H7))))))
theorem A2O (a:List GNode) (hl:a.length≤maxLen) (ha:∀y∈a,GNode.ok y) (l:Int) (h0:0≤l) (h1:l≤1048576):BG a l=some (Uc l (a.length+FG GNode.sz a)):=
 WW BG EH Hi GNode.sz (fun a l=>by rw[BG]) (fun a l i=>by rw[EH]) a hl (fun x hx=>A63 x (ha x hx)) h0 h1
theorem A64 : ∀ (a:GNode),a.sz≤1048576→Hj a=some a:=by
 refine GNode.ind' fun a ih=> ?_
 intro hs
 rw[GNode.sz_eq]at hs
 have L3:=rz a.Decls (by omega) (fun x hx=>by have:=BA GDecl.sz hx;omega)
 have L4:=A2M a.Attrs (by omega) (fun x hx=>by have:=BA GAttr.sz hx;omega)
 have L5:EZ a.Kids=some a.Kids:=by
  have:=WX EZ F6 Hj id _ 144 (fun a=>by rw[EZ]) (fun a out i=>by rw[F6]) (by decide) (by decide) a.Kids (by omega) (fun x hx=>ih x hx (by have:=BA GNode.sz hx;omega))
  simpa using this
 rw[Hj]
 simp[L3,L4,L5,ZU]
theorem A65 : ∀ (a:GNode),a.sz≤1200000→Hn a a=some true:=by
 refine GNode.ind' fun a ih=> ?_
 intro hs
 rw[GNode.sz_eq]at hs
 have L3:=s7 a.Decls (by omega) (fun x hx=>by have:=BA GDecl.sz hx;omega)
 have L4:=A2N a.Attrs (by omega) (fun x hx=>by have:=BA GAttr.sz hx;omega)
 have L5:Ee a.Kids a.Kids=some true:=WY Ee EO Hn (fun a b=>by rw[Ee]) (fun a b i=>by rw[EO]) a.Kids (Nat.le_trans (m:=1200000) (by omega) (by decide)) (fun x hx=>ih x hx (by have:=BA GNode.sz hx;omega))
 rw[Hn]
 simp[L3,L4,L5,RN,P8,RO]
theorem A2P (a:List GNode) (hl:a.length≤1048576) (ha:∀y∈a,GNode.sz y≤1048576):EZ a=some a:=by
 have:=WX EZ F6 Hj id _ 144 (fun a=>by rw[EZ]) (fun a out i=>by rw[F6]) (by decide) (by decide) a hl (fun x hx=>A64 x (ha x hx))
 simpa using this
theorem A2Q (a:List GNode) (hl:a.length≤1200000) (ha:∀y∈a,GNode.sz y≤1200000):Ee a a=some true:=
 WY Ee EO Hn (fun a b=>by rw[Ee]) (fun a b i=>by rw[EO]) a (Nat.le_trans hl (by decide)) (fun x hx=>A65 x (ha x hx))
def GOp.sz (x:GOp):Nat:=GSel.sz x.Sel+(x.Pre.size+(x.Local.size+((x.Kids.length+FG GNode.sz x.Kids)+((x.Decls.length+FG GDecl.sz x.Decls)))))
theorem GOp.sz_eq (x:GOp):x.sz=GSel.sz x.Sel+(x.Pre.size+(x.Local.size+((x.Kids.length+FG GNode.sz x.Kids)+((x.Decls.length+FG GDecl.sz x.Decls))))):=rfl
def GOp.ok (x:GOp):Prop:=(-9223372036854775808≤x.Kind∧x.Kind<9223372036854775808)∧GSel.ok x.Sel∧(-9223372036854775808≤x.Pos∧x.Pos<9223372036854775808)∧(-9223372036854775808≤x.Typ∧x.Typ<9223372036854775808)∧x.Pre.size≤maxLen∧x.Local.size≤maxLen∧(-9223372036854775808≤x.Ws∧x.Ws<9223372036854775808)∧(x.Kids.length≤maxLen∧∀y∈x.Kids,GNode.ok y)∧(x.Decls.length≤maxLen∧∀y∈x.Decls,GDecl.ok y)
theorem GOp.ok_iff (x:GOp):x.ok↔(-9223372036854775808≤x.Kind∧x.Kind<9223372036854775808)∧GSel.ok x.Sel∧(-9223372036854775808≤x.Pos∧x.Pos<9223372036854775808)∧(-9223372036854775808≤x.Typ∧x.Typ<9223372036854775808)∧x.Pre.size≤maxLen∧x.Local.size≤maxLen∧(-9223372036854775808≤x.Ws∧x.Ws<9223372036854775808)∧(x.Kids.length≤maxLen∧∀y∈x.Kids,GNode.ok y)∧(x.Decls.length≤maxLen∧∀y∈x.Decls,GDecl.ok y):=Iff.rfl
theorem AC2 (a:GOp) (ha:a.ok) (l:Int) (h0:0≤l) (h1:l≤1048576):TH a l=some (Uc l a.sz):=by
 obtain⟨H0,H1,H2,H3,H4,H5,H6,H7,H8⟩:=(GOp.ok_iff a).1 ha
 rw[TH,GOp.sz_eq]
 exact szB (fun l=>Ps a.Sel l) (GSel.sz a.Sel) (fun l=>if BV (AY l (AL a.Pre)) 0 then some (-1)else if BV (AY (AY l (AL a.Pre)) (AL a.Local)) 0 then some (-1)else BG a.Kids (AY (AY l (AL a.Pre)) (AL a.Local))>>=fun r3=>if BV r3 0 then some (-1)else Bt a.Decls r3>>=fun r4=>if BV r4 0 then some (-1)else some r4) (a.Pre.size+(a.Local.size+((a.Kids.length+FG GNode.sz a.Kids)+((a.Decls.length+FG GDecl.sz a.Decls))))) h0 h1 (A9H a.Sel H1 l h0 h1) (fun l h0 h1=>by
  exact szK a.Pre.size (fun l=>if BV (AY l (AL a.Local)) 0 then some (-1)else BG a.Kids (AY l (AL a.Local))>>=fun r3=>if BV r3 0 then some (-1)else Bt a.Decls r3>>=fun r4=>if BV r4 0 then some (-1)else some r4) (a.Local.size+((a.Kids.length+FG GNode.sz a.Kids)+((a.Decls.length+FG GDecl.sz a.Decls)))) h0 h1 H4 (fun l h0 h1=>by
   exact szK a.Local.size (fun l=>BG a.Kids l>>=fun r3=>if BV r3 0 then some (-1)else Bt a.Decls r3>>=fun r4=>if BV r4 0 then some (-1)else some r4) ((a.Kids.length+FG GNode.sz a.Kids)+((a.Decls.length+FG GDecl.sz a.Decls))) h0 h1 H5 (fun l h0 h1=>by
    exact szB (fun l=>BG a.Kids l) ((a.Kids.length+FG GNode.sz a.Kids)) (fun l=>Bt a.Decls l>>=fun r4=>if BV r4 0 then some (-1)else some r4) ((a.Decls.length+FG GDecl.sz a.Decls)) h0 h1 (A2O a.Kids H7.1 H7.2 l h0 h1) (fun l h0 h1=>by
     have:=szB (fun l=>Bt a.Decls l) ((a.Decls.length+FG GDecl.sz a.Decls)) some 0 h0 h1 (ru a.Decls H8.1 H8.2 l h0 h1) (fun l h0 h1=>szD h0)
     simpa using this))))
theorem A9K (a:List GOp) (hl:a.length≤maxLen) (ha:∀y∈a,GOp.ok y) (l:Int) (h0:0≤l) (h1:l≤1048576):Pt a l=some (Uc l (a.length+FG GOp.sz a)):=
 WW Pt HV TH GOp.sz (fun a l=>by rw[Pt]) (fun a l i=>by rw[HV]) a hl (fun x hx=>AC2 x (ha x hx)) h0 h1
theorem AC3 (a:GOp) (hs:a.sz≤1048576):TI a=some a:=by
 rw[GOp.sz_eq]at hs
 have L0:=A9I a.Sel (by omega)
 have L3:=A2P a.Kids (by omega) (fun x hx=>by have:=BA GNode.sz hx;omega)
 have L4:=rz a.Decls (by omega) (fun x hx=>by have:=BA GDecl.sz hx;omega)
 simp[TI,L0,L3,L4,A0m]
theorem AC4 (a:GOp) (hs:a.sz≤1200000):TJ a a=some true:=by
 rw[GOp.sz_eq]at hs
 have L0:=A9J a.Sel (by omega)
 have L3:=A2Q a.Kids (by omega) (fun x hx=>by have:=BA GNode.sz hx;omega)
 have L4:=s7 a.Decls (by omega) (fun x hx=>by have:=BA GDecl.sz hx;omega)
 simp[TJ,L0,L3,L4,RN,P8,RO]
theorem A9L (a:List GOp) (hl:a.length≤1048576) (ha:∀y∈a,GOp.sz y≤1048576):J0 a=some a:=by
 have:=WX J0 IG TI id _ 152 (fun a=>by rw[J0]) (fun a out i=>by rw[IG]) (by decide) (by decide) a hl (fun x hx=>AC3 x (ha x hx))
 simpa using this
theorem A9M (a:List GOp) (hl:a.length≤1200000) (ha:∀y∈a,GOp.sz y≤1200000):Pw a a=some true:=
 WY Pw HZ TJ (fun a b=>by rw[Pw]) (fun a b i=>by rw[HZ]) a (Nat.le_trans hl (by decide)) (fun x hx=>AC4 x (ha x hx))
end TT
