/- All of the base together. No condition. -/
import Derived.Test.YtdioaeeaifahnaaFpCopy
import Derived.Test.YtdioaeeaifahnaaFpLend
import Derived.Test.YtdioaeeaifahnaaFpDel
