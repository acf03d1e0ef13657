/- All of the base, with builders and places. No condition. -/
import Derived.Test.YtpogcicepceljaaDoorFpMore
import Derived.Test.YtpogcicepceljaaDoorFpSb
import Derived.Test.YtpogcicepceljaaDoorFpPlc
