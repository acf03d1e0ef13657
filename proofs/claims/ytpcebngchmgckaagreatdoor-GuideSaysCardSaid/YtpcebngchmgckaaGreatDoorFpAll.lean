/- All of the base, with builders and places. No condition. -/
import Derived.Test.YtpcebngchmgckaaGreatDoorFpMore
import Derived.Test.YtpcebngchmgckaaGreatDoorFpSb
import Derived.Test.YtpcebngchmgckaaGreatDoorFpPlc
