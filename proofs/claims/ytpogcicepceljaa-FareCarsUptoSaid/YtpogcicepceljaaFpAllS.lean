/- All of the base, with ranges over functions and sorting. No condition. -/
import Derived.Test.YtpogcicepceljaaFpIt
import Derived.Test.YtpogcicepceljaaFpSort
