/- All of the base, with sorting and numbers' texts. No condition. -/
import Derived.Test.YtpcebngchmgckaaGreatDoorFpAllS
import Derived.Test.YtpcebngchmgckaaGreatDoorFpTab
