/- The functions, all together. No condition beyond KOk. -/
import Derived.Test.YtkjoeomgnkfljaaGreatDoorAbF1
import Derived.Test.YtkjoeomgnkfljaaGreatDoorAbF2
import Derived.Test.YtkjoeomgnkfljaaGreatDoorAbF3
import Derived.Test.YtkjoeomgnkfljaaGreatDoorAbF4
import Derived.Test.YtkjoeomgnkfljaaGreatDoorAbF5
import Derived.Test.YtkjoeomgnkfljaaGreatDoorAbF6
import Derived.Test.YtkjoeomgnkfljaaGreatDoorAbF7
import Derived.Test.YtkjoeomgnkfljaaGreatDoorAbF8
