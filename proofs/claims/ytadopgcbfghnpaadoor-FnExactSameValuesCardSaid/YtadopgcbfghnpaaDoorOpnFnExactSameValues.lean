/- How each argument of the law is opened. -/
import Derived.Test.YtadopgcbfghnpaaDoorAbL7
import Derived.Test.YtadopgcbfghnpaaDoorAbW
namespace Go.Ab
open Go.Proofs
set_option linter.unusedVariables false
end Go.Ab
