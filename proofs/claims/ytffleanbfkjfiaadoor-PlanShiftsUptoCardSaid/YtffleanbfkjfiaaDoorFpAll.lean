/- All of the base, with builders and places. No condition. -/
import Derived.Test.YtffleanbfkjfiaaDoorFpMore
import Derived.Test.YtffleanbfkjfiaaDoorFpSb
import Derived.Test.YtffleanbfkjfiaaDoorFpPlc
