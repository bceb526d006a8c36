import Derived.Test.YtejfgkcjhmmjkaaGreatDoorTP2Sign
import Derived.Lib.IndexMore
import Derived.Lib.Fold
set_option linter.unusedVariables false
set_option linter.unusedSimpArgs false
namespace TT
open Go
theorem ext_list (s : ByteArray) (i k : Nat) : (s.extract i k).toList = (s.data.toList.drop i).take (k - i) := by
 rw [Lib.toList_data, Lib.extract_data]
theorem dlen (s : ByteArray) : s.data.toList.length = s.size := Array.length_toList
end TT
