/- All of the base, with ranges over functions and sorting. No condition. -/
import Derived.Test.YtelbaoceiimjjaaDoorFpIt
import Derived.Test.YtelbaoceiimjjaaDoorFpSort
