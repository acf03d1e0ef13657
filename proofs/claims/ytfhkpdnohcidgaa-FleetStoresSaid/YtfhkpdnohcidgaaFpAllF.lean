/- All of the base, with sorting by a comparison. No condition. -/
import Derived.Test.YtfhkpdnohcidgaaFpAllS
import Derived.Test.YtfhkpdnohcidgaaFpSortF
