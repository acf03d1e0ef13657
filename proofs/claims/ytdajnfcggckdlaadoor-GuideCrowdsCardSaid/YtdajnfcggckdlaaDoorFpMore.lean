/- All of the base together. No condition. -/
import Derived.Test.YtdajnfcggckdlaaDoorFpCopy
import Derived.Test.YtdajnfcggckdlaaDoorFpLend
import Derived.Test.YtdajnfcggckdlaaDoorFpDel
