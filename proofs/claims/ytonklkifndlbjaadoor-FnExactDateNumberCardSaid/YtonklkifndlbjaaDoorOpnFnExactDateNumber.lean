/- How each argument of the law is opened. -/
import Derived.Test.YtonklkifndlbjaaDoorAbV
import Derived.Test.YtonklkifndlbjaaDoorAbW
namespace Go.Ab
open Go.Proofs
set_option linter.unusedVariables false
end Go.Ab
