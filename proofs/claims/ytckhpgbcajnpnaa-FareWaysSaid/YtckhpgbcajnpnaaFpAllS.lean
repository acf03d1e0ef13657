/- All of the base, with ranges over functions and sorting. No condition. -/
import Derived.Test.YtckhpgbcajnpnaaFpIt
import Derived.Test.YtckhpgbcajnpnaaFpSort
