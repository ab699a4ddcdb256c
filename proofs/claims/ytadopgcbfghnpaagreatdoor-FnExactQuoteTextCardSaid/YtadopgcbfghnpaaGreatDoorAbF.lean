/- The functions, all together. No condition beyond KOk. -/
import Derived.Test.YtadopgcbfghnpaaGreatDoorAbF1
import Derived.Test.YtadopgcbfghnpaaGreatDoorAbF2
import Derived.Test.YtadopgcbfghnpaaGreatDoorAbF3
import Derived.Test.YtadopgcbfghnpaaGreatDoorAbF4
import Derived.Test.YtadopgcbfghnpaaGreatDoorAbF5
import Derived.Test.YtadopgcbfghnpaaGreatDoorAbF6
import Derived.Test.YtadopgcbfghnpaaGreatDoorAbF7
