import Derived.Test.YtdpdfjkjlkmjaaaTH4
import Derived.Shelf.Unicode.DecodeSlow
import Derived.Shelf.Strings.Search3
import Derived.Lib.CutLaws
import Derived.Lib.ItoaNum
import Derived.Lib.LaidTab
import Derived.Lib.AppendIntMem
import Derived.Handed
import Derived.Lib.LaidU8
set_option linter.unusedVariables false
set_option linter.unusedSimpArgs false
namespace TT
open Go Go.RowKit
end TT
namespace TT
open Go Go.RowKit
def Gt.and (G H : Gt) : Gt := ⟨fun B w => G.ok B w ∧ H.ok B w, fun h hB hw => ⟨G.mono h.1 hB hw, H.mono h.2 hB hw⟩⟩
end TT
namespace TT
open Go Go.RowKit
end TT
