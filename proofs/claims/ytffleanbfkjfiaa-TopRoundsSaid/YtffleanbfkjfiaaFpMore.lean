/- All of the base together. No condition. -/
import Derived.Test.YtffleanbfkjfiaaFpCopy
import Derived.Test.YtffleanbfkjfiaaFpLend
import Derived.Test.YtffleanbfkjfiaaFpDel
