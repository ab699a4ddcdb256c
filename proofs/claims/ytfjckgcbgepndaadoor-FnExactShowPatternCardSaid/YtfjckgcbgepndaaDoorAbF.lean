/- The functions, all together. No condition beyond KOk. -/
import Derived.Test.YtfjckgcbgepndaaDoorAbF1
import Derived.Test.YtfjckgcbgepndaaDoorAbF2
import Derived.Test.YtfjckgcbgepndaaDoorAbF3
import Derived.Test.YtfjckgcbgepndaaDoorAbF4
import Derived.Test.YtfjckgcbgepndaaDoorAbF5
