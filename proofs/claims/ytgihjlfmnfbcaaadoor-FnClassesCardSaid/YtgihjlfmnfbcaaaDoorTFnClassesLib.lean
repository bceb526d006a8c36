import Derived.Test.YtgihjlfmnfbcaaaDoorTKK
import Derived.Test.YtgihjlfmnfbcaaaDoorTHX4
import Derived.Test.YtgihjlfmnfbcaaaDoorTD25
import Derived.Test.YtgihjlfmnfbcaaaDoorTE
import Derived.KernelRfl
import Derived.Test.YtgihjlfmnfbcaaaDoorTSH
set_option maxRecDepth 100000
namespace TT
open Go Go.Proofs
abbrev GG : Gt := (u8G 0 1)
theorem Zo : ∀ p ∈ BV.lb, KY GG Tryd.prog p.1 p.2 := fun p hp => by
 simp only [BV, List.mem_cons, List.not_mem_nil, or_false] at hp
 subst hp
 ·exact Ji (fun B w h => h.2.2) (by kernel_rfl) Tryd.utf8_DecodeRuneInString
end TT
