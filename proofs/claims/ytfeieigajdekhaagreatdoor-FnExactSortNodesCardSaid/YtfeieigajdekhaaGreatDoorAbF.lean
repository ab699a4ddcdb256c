/- The functions, all together. No condition beyond KOk. -/
import Derived.Test.YtfeieigajdekhaaGreatDoorAbF1
import Derived.Test.YtfeieigajdekhaaGreatDoorAbF2
import Derived.Test.YtfeieigajdekhaaGreatDoorAbF3
import Derived.Test.YtfeieigajdekhaaGreatDoorAbF4
import Derived.Test.YtfeieigajdekhaaGreatDoorAbF5
import Derived.Test.YtfeieigajdekhaaGreatDoorAbF6
import Derived.Test.YtfeieigajdekhaaGreatDoorAbF7
import Derived.Test.YtfeieigajdekhaaGreatDoorAbF8
import Derived.Test.YtfeieigajdekhaaGreatDoorAbF9
