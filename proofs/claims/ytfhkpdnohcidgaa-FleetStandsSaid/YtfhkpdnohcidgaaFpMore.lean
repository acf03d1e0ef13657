/- All of the base together. No condition. -/
import Derived.Test.YtfhkpdnohcidgaaFpCopy
import Derived.Test.YtfhkpdnohcidgaaFpLend
import Derived.Test.YtfhkpdnohcidgaaFpDel
