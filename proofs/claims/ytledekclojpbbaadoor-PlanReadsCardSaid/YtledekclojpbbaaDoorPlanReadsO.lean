/- What the arguments of the law read as. No condition. -/
import Derived.Test.YtledekclojpbbaaDoorProg
import Derived.Test.YtledekclojpbbaaDoorPlanReadsM
import Derived.Test.YtledekclojpbbaaDoorFpOpen
import Derived.Test.YtledekclojpbbaaDoorFpIn
namespace Go.Proofs.YtledekclojpbbaaDoor
open Go Go.Fp
theorem und9 : Tryd.prog.underlying 9 = some .string := by kernel_rfl



theorem und4 : Tryd.prog.underlying 4 = some .bool := by kernel_rfl
end Go.Proofs.YtledekclojpbbaaDoor
