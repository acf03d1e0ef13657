/- All of the base, with ranges over functions and sorting. No condition. -/
import Derived.Test.YtledekclojpbbaaDoorFpIt
import Derived.Test.YtledekclojpbbaaDoorFpSort
