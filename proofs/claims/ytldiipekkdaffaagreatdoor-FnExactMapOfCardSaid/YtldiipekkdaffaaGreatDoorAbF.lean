/- The functions, all together. No condition beyond KOk. -/
import Derived.Test.YtldiipekkdaffaaGreatDoorAbF1
import Derived.Test.YtldiipekkdaffaaGreatDoorAbF2
import Derived.Test.YtldiipekkdaffaaGreatDoorAbF3
import Derived.Test.YtldiipekkdaffaaGreatDoorAbF4
import Derived.Test.YtldiipekkdaffaaGreatDoorAbF5
import Derived.Test.YtldiipekkdaffaaGreatDoorAbF6
import Derived.Test.YtldiipekkdaffaaGreatDoorAbF7
