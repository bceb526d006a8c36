import Derived.Test.YtpmnlfgdicmiiaaGreatDoorTP0
import Derived.Test.YtpmnlfgdicmiiaaGreatDoorTDefs
set_option linter.unusedVariables false
set_option linter.unusedSimpArgs false
namespace TT
open Go
def AH.sz (x:AH):Nat:=x.Pre.size+(x.Local.size+(x.Val.size))
theorem AH.sz_eq (x:AH):x.sz=x.Pre.size+(x.Local.size+(x.Val.size)):=rfl
def AH.ok (x:AH):Prop:=(-9223372036854775808≤x.Kind∧x.Kind<9223372036854775808)∧(-9223372036854775808≤x.N∧x.N<9223372036854775808)∧x.Pre.size≤maxLen∧x.Local.size≤maxLen∧x.Val.size≤maxLen
def AE.sz (x:AE):Nat:=x.Pre.size+(x.Local.size+((x.Preds.length+szs AH.sz x.Preds)))
theorem AE.sz_eq (x:AE):x.sz=x.Pre.size+(x.Local.size+((x.Preds.length+szs AH.sz x.Preds))):=rfl
def AE.ok (x:AE):Prop:=(-9223372036854775808≤x.Kind∧x.Kind<9223372036854775808)∧x.Pre.size≤maxLen∧x.Local.size≤maxLen∧(x.Preds.length≤maxLen∧∀y∈x.Preds,AH.ok y)
def B8.sz (x:B8):Nat:=x.Id.size+((x.Steps.length+szs AE.sz x.Steps))
theorem B8.sz_eq (x:B8):x.sz=x.Id.size+((x.Steps.length+szs AE.sz x.Steps)):=rfl
def B8.ok (x:B8):Prop:=x.Id.size≤maxLen∧(x.Steps.length≤maxLen∧∀y∈x.Steps,AE.ok y)
def A2.sz (x:A2):Nat:=x.Pre.size+(x.Uri.size)
theorem A2.sz_eq (x:A2):x.sz=x.Pre.size+(x.Uri.size):=rfl
def A2.ok (x:A2):Prop:=x.Pre.size≤maxLen∧x.Uri.size≤maxLen
def A5.sz (x:A5):Nat:=x.Pre.size+(x.Local.size+(x.Uri.size+(x.Val.size)))
theorem A5.sz_eq (x:A5):x.sz=x.Pre.size+(x.Local.size+(x.Uri.size+(x.Val.size))):=rfl
def A5.ok (x:A5):Prop:=x.Pre.size≤maxLen∧x.Local.size≤maxLen∧x.Uri.size≤maxLen∧x.Val.size≤maxLen
mutual
def A0.sz : A0→Nat
 |⟨kind',pre',local',uri',decls',attrs',kids',text'⟩=>pre'.size+(local'.size+(uri'.size+((decls'.length+szs A2.sz decls')+((attrs'.length+szs A5.sz attrs')+((kids'.length+A0.szL kids')+(text'.size))))))
def A0.szL : List A0→Nat
 | []=>0
 |x::l=>A0.sz x+A0.szL l
end
theorem A0.szL_eq (l:List A0):A0.szL l=szs A0.sz l:=by
 induction l with
 |nil=>rfl
 |cons x l ih=>rw[A0.szL,Kx,ih]
theorem A0.sz_eq (x:A0):x.sz=x.Pre.size+(x.Local.size+(x.Uri.size+((x.Decls.length+szs A2.sz x.Decls)+((x.Attrs.length+szs A5.sz x.Attrs)+((x.Kids.length+szs A0.sz x.Kids)+(x.Text.size)))))):=by cases x;rw[A0.sz,A0.szL_eq]
mutual
def A0.ok : A0→Prop
 |⟨kind',pre',local',uri',decls',attrs',kids',text'⟩=>(-9223372036854775808≤kind'∧kind'<9223372036854775808)∧pre'.size≤maxLen∧local'.size≤maxLen∧uri'.size≤maxLen∧(decls'.length≤maxLen∧∀y∈decls',A2.ok y)∧(attrs'.length≤maxLen∧∀y∈attrs',A5.ok y)∧(kids'.length≤maxLen∧A0.okL kids')∧text'.size≤maxLen
def A0.okL : List A0→Prop
 | []=>True
 |x::l=>A0.ok x∧A0.okL l
end
mutual
theorem A0.ind' {p:A0→Prop} (h:∀x,(∀k∈x.Kids,p k)→p x):∀x,p x
 |⟨kind',pre',local',uri',decls',attrs',kids',text'⟩=>h _ (A0.indL' h kids')
theorem A0.indL' {p:A0→Prop} (h:∀x,(∀k∈x.Kids,p k)→p x):∀l:List A0,∀k∈l,p k
 | [],k,hk=>by cases hk
 |y::l,k,hk=>by
  rcases List.mem_cons.1 hk with e|e
  ·rw[e];exact A0.ind' h y
  ·exact A0.indL' h l k e
end
end TT
