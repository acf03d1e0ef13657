/- All of the base, with sorting and numbers' texts. No condition. -/
import Derived.Test.YtdajnfcggckdlaaDoorFpAllS
import Derived.Test.YtdajnfcggckdlaaDoorFpTab
