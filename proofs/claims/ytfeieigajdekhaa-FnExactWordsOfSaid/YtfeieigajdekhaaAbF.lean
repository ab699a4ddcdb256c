/- The functions, all together. No condition beyond KOk. -/
import Derived.Test.YtfeieigajdekhaaAbF1
import Derived.Test.YtfeieigajdekhaaAbF2
import Derived.Test.YtfeieigajdekhaaAbF3
