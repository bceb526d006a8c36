import Derived.Test.YtpmnlfgdicmiiaaGreatDoorTP3Cur
import Derived.Test.YtpmnlfgdicmiiaaGreatDoorTP3Copy
set_option linter.unusedVariables false
set_option linter.unusedSimpArgs false
namespace TT
open Go
end TT
namespace TT
open Go
def At (n:A0) (a q:List Int) (x:A0):Prop:=∃p,q=a++p∧Em n p=some x
end TT
