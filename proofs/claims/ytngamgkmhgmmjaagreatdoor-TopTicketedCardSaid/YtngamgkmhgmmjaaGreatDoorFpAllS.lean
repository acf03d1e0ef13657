/- All of the base, with ranges over functions and sorting. No condition. -/
import Derived.Test.YtngamgkmhgmmjaaGreatDoorFpIt
import Derived.Test.YtngamgkmhgmmjaaGreatDoorFpSort
