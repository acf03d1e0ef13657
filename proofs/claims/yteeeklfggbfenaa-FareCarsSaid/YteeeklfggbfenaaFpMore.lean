/- All of the base together. No condition. -/
import Derived.Test.YteeeklfggbfenaaFpCopy
import Derived.Test.YteeeklfggbfenaaFpLend
import Derived.Test.YteeeklfggbfenaaFpDel
