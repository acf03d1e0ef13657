/- What the arguments of the law read as. No condition. -/
import Derived.Test.YteeeklfggbfenaaProg
import Derived.Test.YteeeklfggbfenaaFareCarsM
import Derived.Test.YteeeklfggbfenaaFpOpen
namespace Go.Proofs.Yteeeklfggbfenaa
open Go Go.Fp
theorem cel3 : Try.prog.cellsOf 3 = 1 := by kernel_rfl
theorem und22 : Try.prog.underlying 22 = some (.slice 3) := by kernel_rfl
theorem und3 : Try.prog.underlying 3 = some (.int .i64) := by kernel_rfl

theorem und4 : Try.prog.underlying 4 = some .bool := by kernel_rfl
end Go.Proofs.Yteeeklfggbfenaa
