/- All of the base, with builders and places. No condition. -/
import Derived.Test.YtckhpgbcajnpnaaFpMore
import Derived.Test.YtckhpgbcajnpnaaFpSb
import Derived.Test.YtckhpgbcajnpnaaFpPlc
