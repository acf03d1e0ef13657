/- All of the base, with sorting and numbers' texts. No condition. -/
import Derived.Test.YtfdifpegldailaaGreatDoorFpAllS
import Derived.Test.YtfdifpegldailaaGreatDoorFpTab
