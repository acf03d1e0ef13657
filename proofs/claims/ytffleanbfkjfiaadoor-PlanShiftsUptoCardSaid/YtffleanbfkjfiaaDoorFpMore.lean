/- All of the base together. No condition. -/
import Derived.Test.YtffleanbfkjfiaaDoorFpCopy
import Derived.Test.YtffleanbfkjfiaaDoorFpLend
import Derived.Test.YtffleanbfkjfiaaDoorFpDel
