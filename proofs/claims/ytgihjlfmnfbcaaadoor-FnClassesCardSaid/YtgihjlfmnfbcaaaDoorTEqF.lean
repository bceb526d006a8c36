import Derived.Shelf.Strings.Fold
import Derived.ScopeJumps
import Derived.Laws.RangeString
import Derived.Shelf.Unicode.DecodeAny
import Derived.Shelf.Unicode.Decode
import Derived.Shelf.Unicode.IsSpaceAny
import Derived.Lib.OthersKept
import Derived.Lib.TrimU
import Derived.Deep.LoopGhost
import Derived.WalkMore
set_option linter.unusedVariables false
set_option linter.unusedSimpArgs false
namespace TT
open Go Go.Proofs Go.Shelf Go.RowKit Go.Lib
variable {P : Program} {ρ : Ren}
end TT
