/- The functions, all together. No condition beyond KOk. -/
import Derived.Test.YtphfoghhcemfhaaAbF1
import Derived.Test.YtphfoghhcemfhaaAbF2
import Derived.Test.YtphfoghhcemfhaaAbF3
import Derived.Test.YtphfoghhcemfhaaAbF4
import Derived.Test.YtphfoghhcemfhaaAbF5
import Derived.Test.YtphfoghhcemfhaaAbF6
