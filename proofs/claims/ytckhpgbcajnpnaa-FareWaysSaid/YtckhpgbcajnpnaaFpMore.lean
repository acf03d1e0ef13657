/- All of the base together. No condition. -/
import Derived.Test.YtckhpgbcajnpnaaFpCopy
import Derived.Test.YtckhpgbcajnpnaaFpLend
import Derived.Test.YtckhpgbcajnpnaaFpDel
