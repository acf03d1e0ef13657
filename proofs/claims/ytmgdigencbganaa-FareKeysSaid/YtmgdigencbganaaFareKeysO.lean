/- What the arguments of the law read as. No condition. -/
import Derived.Test.YtmgdigencbganaaProg
import Derived.Test.YtmgdigencbganaaFareKeysM
import Derived.Test.YtmgdigencbganaaFpOpen
namespace Go.Proofs.Ytmgdigencbganaa
open Go Go.Fp
theorem und3 : Try.prog.underlying 3 = some (.int .i64) := by kernel_rfl

theorem und4 : Try.prog.underlying 4 = some .bool := by kernel_rfl
end Go.Proofs.Ytmgdigencbganaa
