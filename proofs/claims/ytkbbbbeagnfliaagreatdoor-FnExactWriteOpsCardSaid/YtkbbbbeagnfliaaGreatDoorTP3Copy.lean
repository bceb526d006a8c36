import Derived.Test.YtkbbbbeagnfliaaGreatDoorTP0
import Derived.Test.YtkbbbbeagnfliaaGreatDoorTP1
set_option linter.unusedVariables false
set_option linter.unusedSimpArgs false
namespace TT
open Go
theorem A2R : ∀ n:GNode,n.sz≤1200000→J8 n=some n:=by
 refine GNode.ind' fun n ih hs=> ?_
 rw[GNode.sz_eq]at hs
 have h:=ZX (fun out i=>H9 n.Kids out i) n.Kids J8 144 (fun out i=>by rw[H9]) (by omega) (by omega) (by omega) (fun x hx=>ih x hx (by have:=BA GNode.sz hx;omega))
 rw[J8,J7,h,FR (by omega) (by omega) (by omega),FR (by omega) (by omega) (by omega)]
 simp only[A1,List.nil_append,ZU]
end TT
namespace TT
open Go
theorem A2S : ∀ n:GNode,n.sz≤1200000→En n=some n:=by
 refine GNode.ind' fun n ih hs=> ?_
 rw[GNode.sz_eq]at hs
 have h:=ZX (fun out i=>DQ out n.Kids i) n.Kids En 144 (fun out i=>by rw[DQ]) (by omega) (by omega) (by omega) (fun x hx=>ih x hx (by have:=BA GNode.sz hx;omega))
 rw[En,DA,Gi,FD,h,FR (by omega) (by omega) (by omega),FR (by omega) (by omega) (by omega)]
 simp only[A1,ZU]
end TT
