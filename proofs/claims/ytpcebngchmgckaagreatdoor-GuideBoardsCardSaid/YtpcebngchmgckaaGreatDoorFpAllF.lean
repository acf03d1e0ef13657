/- All of the base, with sorting by a comparison. No condition. -/
import Derived.Test.YtpcebngchmgckaaGreatDoorFpAllS
import Derived.Test.YtpcebngchmgckaaGreatDoorFpSortF
