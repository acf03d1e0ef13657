/- What the arguments of the law read as. No condition. -/
import Derived.Test.YtdioaeeaifahnaaProg
import Derived.Test.YtdioaeeaifahnaaFareSettlesM
import Derived.Test.YtdioaeeaifahnaaFpOpen
namespace Go.Proofs.Ytdioaeeaifahnaa
open Go Go.Fp
theorem cel3 : Try.prog.cellsOf 3 = 1 := by kernel_rfl
theorem cel41 : Try.prog.cellsOf 41 = 1 := by kernel_rfl
theorem und3 : Try.prog.underlying 3 = some (.int .i64) := by kernel_rfl
theorem und41 : Try.prog.underlying 41 = some (.slice 3) := by kernel_rfl
theorem und57 : Try.prog.underlying 57 = some (.slice 41) := by kernel_rfl

theorem und4 : Try.prog.underlying 4 = some .bool := by kernel_rfl
end Go.Proofs.Ytdioaeeaifahnaa
