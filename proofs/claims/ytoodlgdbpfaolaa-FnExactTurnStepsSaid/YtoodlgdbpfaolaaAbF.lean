/- The functions, all together. No condition beyond KOk. -/
import Derived.Test.YtoodlgdbpfaolaaAbF1
import Derived.Test.YtoodlgdbpfaolaaAbF2
import Derived.Test.YtoodlgdbpfaolaaAbF3
import Derived.Test.YtoodlgdbpfaolaaAbF4
import Derived.Test.YtoodlgdbpfaolaaAbF5
