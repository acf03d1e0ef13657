/- All of the base together. No condition. -/
import Derived.Test.YtledekclojpbbaaDoorFpCopy
import Derived.Test.YtledekclojpbbaaDoorFpLend
import Derived.Test.YtledekclojpbbaaDoorFpDel
