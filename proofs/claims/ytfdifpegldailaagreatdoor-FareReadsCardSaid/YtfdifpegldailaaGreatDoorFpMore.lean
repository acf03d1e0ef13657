/- All of the base together. No condition. -/
import Derived.Test.YtfdifpegldailaaGreatDoorFpCopy
import Derived.Test.YtfdifpegldailaaGreatDoorFpLend
import Derived.Test.YtfdifpegldailaaGreatDoorFpDel
