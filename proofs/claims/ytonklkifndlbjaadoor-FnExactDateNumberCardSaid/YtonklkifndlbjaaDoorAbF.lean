/- The functions, all together. No condition beyond KOk. -/
import Derived.Test.YtonklkifndlbjaaDoorAbF1
import Derived.Test.YtonklkifndlbjaaDoorAbF2
import Derived.Test.YtonklkifndlbjaaDoorAbF3
import Derived.Test.YtonklkifndlbjaaDoorAbF4
import Derived.Test.YtonklkifndlbjaaDoorAbF5
import Derived.Test.YtonklkifndlbjaaDoorAbF6
