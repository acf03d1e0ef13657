/- All of the base together. No condition. -/
import Derived.Test.YtpcebngchmgckaaDoorFpCopy
import Derived.Test.YtpcebngchmgckaaDoorFpLend
import Derived.Test.YtpcebngchmgckaaDoorFpDel
