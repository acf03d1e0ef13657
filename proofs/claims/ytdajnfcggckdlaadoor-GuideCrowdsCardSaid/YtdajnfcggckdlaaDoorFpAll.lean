/- All of the base, with builders and places. No condition. -/
import Derived.Test.YtdajnfcggckdlaaDoorFpMore
import Derived.Test.YtdajnfcggckdlaaDoorFpSb
import Derived.Test.YtdajnfcggckdlaaDoorFpPlc
