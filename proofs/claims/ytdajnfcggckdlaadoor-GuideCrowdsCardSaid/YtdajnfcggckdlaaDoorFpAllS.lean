/- All of the base, with ranges over functions and sorting. No condition. -/
import Derived.Test.YtdajnfcggckdlaaDoorFpIt
import Derived.Test.YtdajnfcggckdlaaDoorFpSort
