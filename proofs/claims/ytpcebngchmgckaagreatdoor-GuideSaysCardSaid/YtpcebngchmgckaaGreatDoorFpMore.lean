/- All of the base together. No condition. -/
import Derived.Test.YtpcebngchmgckaaGreatDoorFpCopy
import Derived.Test.YtpcebngchmgckaaGreatDoorFpLend
import Derived.Test.YtpcebngchmgckaaGreatDoorFpDel
