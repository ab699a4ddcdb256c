/- How each argument of the law is opened. -/
import Derived.Test.YtfeieigajdekhaaAbWP2
import Derived.Test.YtfeieigajdekhaaAbR
namespace Go.Ab
open Go.Proofs
set_option linter.unusedVariables false
set_option linter.unusedSimpArgs false
end Go.Ab
