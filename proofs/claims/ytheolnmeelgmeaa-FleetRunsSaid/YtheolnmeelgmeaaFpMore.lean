/- All of the base together. No condition. -/
import Derived.Test.YtheolnmeelgmeaaFpCopy
import Derived.Test.YtheolnmeelgmeaaFpLend
import Derived.Test.YtheolnmeelgmeaaFpDel
