/- All of the base together. No condition. -/
import Derived.Test.YtfioafdipipcaaaFpCopy
import Derived.Test.YtfioafdipipcaaaFpLend
