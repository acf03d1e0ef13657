/- All of the base, with builders and places. No condition. -/
import Derived.Test.YtfdifpegldailaaGreatDoorFpMore
import Derived.Test.YtfdifpegldailaaGreatDoorFpSb
import Derived.Test.YtfdifpegldailaaGreatDoorFpPlc
