/- All of the base, with builders and places. No condition. -/
import Derived.Test.YtpcebngchmgckaaDoorFpMore
import Derived.Test.YtpcebngchmgckaaDoorFpSb
import Derived.Test.YtpcebngchmgckaaDoorFpPlc
