import Derived.Test.YtpmnlfgdicmiiaaGreatDoorTP0
import Derived.Test.YtpmnlfgdicmiiaaGreatDoorTP1
set_option linter.unusedVariables false
set_option linter.unusedSimpArgs false
namespace TT
open Go
theorem uw : ∀ n:A0,n.sz≤1048576→HF n=some n:=by
 refine A0.ind' fun n ih hs=> ?_
 rw[A0.sz_eq]at hs
 have h:=jU (fun out i=>Jd n.Kids out i) n.Kids HF 144 (fun out i=>by rw[Jd]) (by omega) (by omega) (by omega) (fun x hx=>ih x hx (by have:=Dq A0.sz hx;omega))
 rw[HF,Qk,h,Gj (by omega) (by omega) (by omega),Gj (by omega) (by omega) (by omega)]
 simp only[A6,List.nil_append,ZI]
end TT
namespace TT
open Go
theorem uy : ∀ n:A0,n.sz≤1048576→EL n=some n:=by
 refine A0.ind' fun n ih hs=> ?_
 rw[A0.sz_eq]at hs
 have h:=jU (fun out i=>FP out n.Kids i) n.Kids EL 144 (fun out i=>by rw[FP]) (by omega) (by omega) (by omega) (fun x hx=>ih x hx (by have:=Dq A0.sz hx;omega))
 rw[EL,G5,G6,KJ,h,Gj (by omega) (by omega) (by omega),Gj (by omega) (by omega) (by omega)]
 simp only[A6,ZI]
end TT
