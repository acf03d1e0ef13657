/- All of the base, with builders and places. No condition. -/
import Derived.Test.YtkagiigknockbaaDoorFpMore
import Derived.Test.YtkagiigknockbaaDoorFpSb
import Derived.Test.YtkagiigknockbaaDoorFpPlc
