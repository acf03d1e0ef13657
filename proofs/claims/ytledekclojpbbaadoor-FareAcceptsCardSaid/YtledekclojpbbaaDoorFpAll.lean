/- All of the base, with builders and places. No condition. -/
import Derived.Test.YtledekclojpbbaaDoorFpMore
import Derived.Test.YtledekclojpbbaaDoorFpSb
import Derived.Test.YtledekclojpbbaaDoorFpPlc
