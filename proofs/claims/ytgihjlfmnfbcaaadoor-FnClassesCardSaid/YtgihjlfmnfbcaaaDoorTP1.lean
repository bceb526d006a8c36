import Derived.Test.YtgihjlfmnfbcaaaDoorTP0
import Derived.Test.YtgihjlfmnfbcaaaDoorTDefs
set_option linter.unusedVariables false
set_option linter.unusedSimpArgs false
namespace TT
open Go
end TT
