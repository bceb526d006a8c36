import Derived.Test.YtkbbbbeagnfliaaGreatDoorTP11Elem
set_option linter.unusedVariables false
set_option linter.unusedSimpArgs false
namespace TT
open Go
theorem law_FnExactWriteOps (a:List GOp) (la:a.length≤maxLen) (ha:∀y∈a,GOp.ok y):Gj a=some true:=by
 unfold Gj
 have s0:=A9K a la ha (1048576) (by omega) (by omega)
 by_cases n0:Uc (1048576) (a.length+FG GOp.sz a)<0
 ·simp[A1,if_true,bf,if_false,s0,P7 n0]
 obtain⟨a0,b0,c0⟩:=A5p (show(0:Int)≤1048576 by omega) n0
 have ta:=A9L a (by omega) (fun y hy=>by have:=BA GOp.sz hy;omega)
 have ea:=A9M a (by omega) (fun y hy=>by have:=BA GOp.sz hy;omega)
 obtain⟨r,hs,hi⟩:=qN a (by omega) ha
 simp[A1,if_true,bf,if_false,s0,GB n0,ta,ea,hs,hi,RO,P8,RN]
end TT
