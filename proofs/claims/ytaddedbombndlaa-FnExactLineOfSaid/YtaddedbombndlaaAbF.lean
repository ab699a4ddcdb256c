/- The functions, all together. No condition beyond KOk. -/
import Derived.Test.YtaddedbombndlaaAbF1
import Derived.Test.YtaddedbombndlaaAbF2
import Derived.Test.YtaddedbombndlaaAbF3
import Derived.Test.YtaddedbombndlaaAbF4
import Derived.Test.YtaddedbombndlaaAbF5
import Derived.Test.YtaddedbombndlaaAbF6
