/- All of the base, with sorting and numbers' texts. No condition. -/
import Derived.Test.YtelbaoceiimjjaaDoorFpAllS
import Derived.Test.YtelbaoceiimjjaaDoorFpTab
