/- All of the base, with sorting and numbers' texts. No condition. -/
import Derived.Test.YtpcebngchmgckaaDoorFpAllS
import Derived.Test.YtpcebngchmgckaaDoorFpTab
