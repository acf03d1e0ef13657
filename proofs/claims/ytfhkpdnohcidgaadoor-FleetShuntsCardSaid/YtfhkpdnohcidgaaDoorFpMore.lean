/- All of the base together. No condition. -/
import Derived.Test.YtfhkpdnohcidgaaDoorFpCopy
import Derived.Test.YtfhkpdnohcidgaaDoorFpLend
import Derived.Test.YtfhkpdnohcidgaaDoorFpDel
