/- All of the base, with sorting and numbers' texts. No condition. -/
import Derived.Test.YtledekclojpbbaaDoorFpAllS
import Derived.Test.YtledekclojpbbaaDoorFpTab
