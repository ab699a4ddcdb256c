/- The functions, all together. No condition beyond KOk. -/
import Derived.Test.YtfjckgcbgepndaaGreatDoorAbF1
import Derived.Test.YtfjckgcbgepndaaGreatDoorAbF2
import Derived.Test.YtfjckgcbgepndaaGreatDoorAbF3
import Derived.Test.YtfjckgcbgepndaaGreatDoorAbF4
import Derived.Test.YtfjckgcbgepndaaGreatDoorAbF5
import Derived.Test.YtfjckgcbgepndaaGreatDoorAbF6
import Derived.Test.YtfjckgcbgepndaaGreatDoorAbF7
