/- All of the base together. No condition. -/
import Derived.Test.YtpogcicepceljaaDoorFpCopy
import Derived.Test.YtpogcicepceljaaDoorFpLend
import Derived.Test.YtpogcicepceljaaDoorFpDel
