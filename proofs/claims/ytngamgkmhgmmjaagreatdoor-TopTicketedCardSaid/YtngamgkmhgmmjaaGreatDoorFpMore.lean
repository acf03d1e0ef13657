/- All of the base together. No condition. -/
import Derived.Test.YtngamgkmhgmmjaaGreatDoorFpCopy
import Derived.Test.YtngamgkmhgmmjaaGreatDoorFpLend
import Derived.Test.YtngamgkmhgmmjaaGreatDoorFpDel
