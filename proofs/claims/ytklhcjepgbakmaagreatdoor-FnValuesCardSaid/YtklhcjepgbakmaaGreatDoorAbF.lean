/- The functions, all together. No condition beyond KOk. -/
import Derived.Test.YtklhcjepgbakmaaGreatDoorAbF1
import Derived.Test.YtklhcjepgbakmaaGreatDoorAbF2
import Derived.Test.YtklhcjepgbakmaaGreatDoorAbF3
import Derived.Test.YtklhcjepgbakmaaGreatDoorAbF4
import Derived.Test.YtklhcjepgbakmaaGreatDoorAbF5
import Derived.Test.YtklhcjepgbakmaaGreatDoorAbF6
import Derived.Test.YtklhcjepgbakmaaGreatDoorAbF7
import Derived.Test.YtklhcjepgbakmaaGreatDoorAbF8
import Derived.Test.YtklhcjepgbakmaaGreatDoorAbF9
