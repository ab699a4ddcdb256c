/- How each argument of the law is opened. -/
import Derived.Test.YtklhcjepgbakmaaGreatDoorAbFNV
import Derived.Test.YtklhcjepgbakmaaGreatDoorAbR
namespace Go.Ab
open Go.Proofs
set_option linter.unusedVariables false
set_option linter.unusedSimpArgs false
end Go.Ab
