/- All of the base, with ranges over functions. No condition. -/
import Derived.Test.YtngamgkmhgmmjaaGreatDoorFpAll
import Derived.Test.YtngamgkmhgmmjaaGreatDoorFpGrow
import Derived.RangeFuncBox
import Derived.RangeFuncLeaves
import Derived.Shelf.Abstract
import Derived.WalkKit
import Derived.OwnWalkIn
import Derived.TacticsInMore
import Derived.LoopNIn
import Derived.LoopIn
import Derived.Maps.AppendAt
import Derived.KernelRfl
