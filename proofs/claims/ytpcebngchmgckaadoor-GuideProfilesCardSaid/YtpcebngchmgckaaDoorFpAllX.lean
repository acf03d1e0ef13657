/- All of the base. No condition. -/
import Derived.Test.YtpcebngchmgckaaDoorFpAllT
import Derived.Test.YtpcebngchmgckaaDoorFpAllF
import Derived.Test.YtpcebngchmgckaaDoorFpGrowX
