/- All of the base, with builders and places. No condition. -/
import Derived.Test.YtngamgkmhgmmjaaGreatDoorFpMore
import Derived.Test.YtngamgkmhgmmjaaGreatDoorFpSb
import Derived.Test.YtngamgkmhgmmjaaGreatDoorFpPlc
