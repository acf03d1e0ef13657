/- All of the base, with builders and places. No condition. -/
import Derived.Test.YtpogcicepceljaaFpMore
import Derived.Test.YtpogcicepceljaaFpSb
import Derived.Test.YtpogcicepceljaaFpPlc
