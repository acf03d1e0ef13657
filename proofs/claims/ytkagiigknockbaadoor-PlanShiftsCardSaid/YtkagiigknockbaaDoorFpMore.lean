/- All of the base together. No condition. -/
import Derived.Test.YtkagiigknockbaaDoorFpCopy
import Derived.Test.YtkagiigknockbaaDoorFpLend
import Derived.Test.YtkagiigknockbaaDoorFpDel
