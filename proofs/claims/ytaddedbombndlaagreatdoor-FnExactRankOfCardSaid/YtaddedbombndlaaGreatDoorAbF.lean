/- The functions, all together. No condition beyond KOk. -/
import Derived.Test.YtaddedbombndlaaGreatDoorAbF1
import Derived.Test.YtaddedbombndlaaGreatDoorAbF2
import Derived.Test.YtaddedbombndlaaGreatDoorAbF3
import Derived.Test.YtaddedbombndlaaGreatDoorAbF4
import Derived.Test.YtaddedbombndlaaGreatDoorAbF5
import Derived.Test.YtaddedbombndlaaGreatDoorAbF6
import Derived.Test.YtaddedbombndlaaGreatDoorAbF7
import Derived.Test.YtaddedbombndlaaGreatDoorAbF8
