/- All of the base together. No condition. -/
import Derived.Test.YtpogcicepceljaaFpCopy
import Derived.Test.YtpogcicepceljaaFpLend
import Derived.Test.YtpogcicepceljaaFpDel
