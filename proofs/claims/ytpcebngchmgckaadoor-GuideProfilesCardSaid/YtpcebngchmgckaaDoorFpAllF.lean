/- All of the base, with sorting by a comparison. No condition. -/
import Derived.Test.YtpcebngchmgckaaDoorFpAllS
import Derived.Test.YtpcebngchmgckaaDoorFpSortF
