/- The functions, all together. No condition beyond KOk. -/
import Derived.Test.YtadopgcbfghnpaaDoorAbF1
import Derived.Test.YtadopgcbfghnpaaDoorAbF2
import Derived.Test.YtadopgcbfghnpaaDoorAbF3
import Derived.Test.YtadopgcbfghnpaaDoorAbF4
import Derived.Test.YtadopgcbfghnpaaDoorAbF5
import Derived.Test.YtadopgcbfghnpaaDoorAbF6
import Derived.Test.YtadopgcbfghnpaaDoorAbF7
