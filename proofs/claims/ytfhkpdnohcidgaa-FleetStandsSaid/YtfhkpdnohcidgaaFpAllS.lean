/- All of the base, with ranges over functions and sorting. No condition. -/
import Derived.Test.YtfhkpdnohcidgaaFpIt
import Derived.Test.YtfhkpdnohcidgaaFpSort
