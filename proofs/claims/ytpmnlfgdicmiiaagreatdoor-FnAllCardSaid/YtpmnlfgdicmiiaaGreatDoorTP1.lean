import Derived.Test.YtpmnlfgdicmiiaaGreatDoorTP0
import Derived.Test.YtpmnlfgdicmiiaaGreatDoorTDefs
set_option linter.unusedVariables false
set_option linter.unusedSimpArgs false
namespace TT
open Go
def AH.sz (x:AH):Nat:=x.Pre.size+(x.Local.size+(x.Val.size))
theorem AH.sz_eq (x:AH):x.sz=x.Pre.size+(x.Local.size+(x.Val.size)):=rfl
def AH.ok (x:AH):Prop:=(-9223372036854775808≤x.Kind∧x.Kind<9223372036854775808)∧(-9223372036854775808≤x.N∧x.N<9223372036854775808)∧x.Pre.size≤maxLen∧x.Local.size≤maxLen∧x.Val.size≤maxLen
def AJ.sz (x:AJ):Nat:=x.Pre.size+(x.Local.size+((x.Preds.length+szs AH.sz x.Preds)))
theorem AJ.sz_eq (x:AJ):x.sz=x.Pre.size+(x.Local.size+((x.Preds.length+szs AH.sz x.Preds))):=rfl
def AJ.ok (x:AJ):Prop:=(-9223372036854775808≤x.Kind∧x.Kind<9223372036854775808)∧x.Pre.size≤maxLen∧x.Local.size≤maxLen∧(x.Preds.length≤maxLen∧∀y∈x.Preds,AH.ok y)
def Eh.sz (x:Eh):Nat:=x.Id.size+((x.Steps.length+szs AJ.sz x.Steps))
theorem Eh.sz_eq (x:Eh):x.sz=x.Id.size+((x.Steps.length+szs AJ.sz x.Steps)):=rfl
def Eh.ok (x:Eh):Prop:=x.Id.size≤maxLen∧(x.Steps.length≤maxLen∧∀y∈x.Steps,AJ.ok y)
def A1.sz (x:A1):Nat:=x.Pre.size+(x.Uri.size)
theorem A1.sz_eq (x:A1):x.sz=x.Pre.size+(x.Uri.size):=rfl
def A1.ok (x:A1):Prop:=x.Pre.size≤maxLen∧x.Uri.size≤maxLen
def A3.sz (x:A3):Nat:=x.Pre.size+(x.Local.size+(x.Uri.size+(x.Val.size)))
theorem A3.sz_eq (x:A3):x.sz=x.Pre.size+(x.Local.size+(x.Uri.size+(x.Val.size))):=rfl
def A3.ok (x:A3):Prop:=x.Pre.size≤maxLen∧x.Local.size≤maxLen∧x.Uri.size≤maxLen∧x.Val.size≤maxLen
mutual
def A0.sz : A0→Nat
 |⟨kind',pre',local',uri',decls',attrs',kids',text'⟩=>pre'.size+(local'.size+(uri'.size+((decls'.length+szs A1.sz decls')+((attrs'.length+szs A3.sz attrs')+((kids'.length+A0.szL kids')+(text'.size))))))
def A0.szL : List A0→Nat
 | []=>0
 |x::l=>A0.sz x+A0.szL l
end
theorem A0.szL_eq (l:List A0):A0.szL l=szs A0.sz l:=by
 induction l with
 |nil=>rfl
 |cons x l ih=>rw[A0.szL,Iv,ih]
theorem A0.sz_eq (x:A0):x.sz=x.Pre.size+(x.Local.size+(x.Uri.size+((x.Decls.length+szs A1.sz x.Decls)+((x.Attrs.length+szs A3.sz x.Attrs)+((x.Kids.length+szs A0.sz x.Kids)+(x.Text.size)))))):=by cases x;rw[A0.sz,A0.szL_eq]
mutual
def A0.ok : A0→Prop
 |⟨kind',pre',local',uri',decls',attrs',kids',text'⟩=>(-9223372036854775808≤kind'∧kind'<9223372036854775808)∧pre'.size≤maxLen∧local'.size≤maxLen∧uri'.size≤maxLen∧(decls'.length≤maxLen∧∀y∈decls',A1.ok y)∧(attrs'.length≤maxLen∧∀y∈attrs',A3.ok y)∧(kids'.length≤maxLen∧A0.okL kids')∧text'.size≤maxLen
def A0.okL : List A0→Prop
 | []=>True
 |x::l=>A0.ok x∧A0.okL l
end
mutual
theorem A0.ind' {p:A0→Prop} (h:∀x,(∀k∈x.Kids,p k)→p x):∀x,p x
 |⟨kind',pre',local',uri',decls',attrs',kids',text'⟩=>h _ (A0.indL' h kids')
theorem A0.indL' {p:A0→Prop} (h:∀x,(∀k∈x.Kids,p k)→p x):∀l:List A0,∀k∈l,p k
 | [],k,hk=>by cases hk
 |y::l,k,hk=>by
  rcases List.mem_cons.1 hk with e|e
  ·rw[e];exact A0.ind' h y
  ·exact A0.indL' h l k e
end
end TT
