/- All of the base, with builders and places. No condition. -/
import Derived.Test.YteeeklfggbfenaaFpMore
import Derived.Test.YteeeklfggbfenaaFpSb
import Derived.Test.YteeeklfggbfenaaFpPlc
