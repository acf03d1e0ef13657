/- What the arguments of the law read as. No condition. -/
import Derived.Test.YtfdifpegldailaaGreatDoorProg
import Derived.Test.YtfdifpegldailaaGreatDoorFareReadsM
import Derived.Test.YtfdifpegldailaaGreatDoorFpOpen
namespace Go.Proofs.YtfdifpegldailaaGreatDoor
open Go Go.Fp
theorem und9 : Tryz.prog.underlying 9 = some .string := by kernel_rfl

theorem und4 : Tryz.prog.underlying 4 = some .bool := by kernel_rfl
end Go.Proofs.YtfdifpegldailaaGreatDoor
