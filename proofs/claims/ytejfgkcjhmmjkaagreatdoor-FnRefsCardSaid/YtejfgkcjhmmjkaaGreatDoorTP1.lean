import Derived.Test.YtejfgkcjhmmjkaaGreatDoorTP0
import Derived.Test.YtejfgkcjhmmjkaaGreatDoorTDefs
set_option linter.unusedVariables false
set_option linter.unusedSimpArgs false
namespace TT
open Go
def GEnt.sz (x : GEnt) : Nat := x.Name.size + (x.Val.size)
def GEnt.ok (x : GEnt) : Prop := x.Name.size ≤ maxLen ∧ x.Val.size ≤ maxLen
end TT
