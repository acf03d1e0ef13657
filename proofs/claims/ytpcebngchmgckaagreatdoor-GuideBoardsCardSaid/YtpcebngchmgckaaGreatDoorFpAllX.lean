/- All of the base. No condition. -/
import Derived.Test.YtpcebngchmgckaaGreatDoorFpAllT
import Derived.Test.YtpcebngchmgckaaGreatDoorFpAllF
import Derived.Test.YtpcebngchmgckaaGreatDoorFpGrowX
