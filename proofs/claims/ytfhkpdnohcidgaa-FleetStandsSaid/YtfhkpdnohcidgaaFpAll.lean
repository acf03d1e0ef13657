/- All of the base, with builders and places. No condition. -/
import Derived.Test.YtfhkpdnohcidgaaFpMore
import Derived.Test.YtfhkpdnohcidgaaFpSb
import Derived.Test.YtfhkpdnohcidgaaFpPlc
