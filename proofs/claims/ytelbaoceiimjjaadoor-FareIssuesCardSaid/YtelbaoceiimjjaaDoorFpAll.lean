/- All of the base, with builders and places. No condition. -/
import Derived.Test.YtelbaoceiimjjaaDoorFpMore
import Derived.Test.YtelbaoceiimjjaaDoorFpSb
import Derived.Test.YtelbaoceiimjjaaDoorFpPlc
