/- All of the base, with sorting and numbers' texts. No condition. -/
import Derived.Test.YtngamgkmhgmmjaaGreatDoorFpAllS
import Derived.Test.YtngamgkmhgmmjaaGreatDoorFpTab
