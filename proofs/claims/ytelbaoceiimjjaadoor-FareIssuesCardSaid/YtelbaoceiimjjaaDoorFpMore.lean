/- All of the base together. No condition. -/
import Derived.Test.YtelbaoceiimjjaaDoorFpCopy
import Derived.Test.YtelbaoceiimjjaaDoorFpLend
import Derived.Test.YtelbaoceiimjjaaDoorFpDel
