import Derived.Test.YtgihjlfmnfbcaaaTP3Same
set_option linter.unusedVariables false
set_option linter.unusedSimpArgs false
namespace TT
open Go
end TT
