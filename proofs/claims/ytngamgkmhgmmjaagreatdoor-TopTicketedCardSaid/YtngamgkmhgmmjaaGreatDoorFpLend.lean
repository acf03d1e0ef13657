/- append of a slice literal onto a slice of the call's own that is asked for again later: what is appended to comes back. No condition. -/
import Derived.Test.YtngamgkmhgmmjaaGreatDoorFpVec
namespace Go.Fp

section
variable {P : Program} {K : Kt} {a : Act} {w : World} {s : Sg} {R : List HP} {n : Nat} {E : Env} {ops : Array Oper} {rest : List Oper} {d : Option Tmp} {ty : TypeId} {pos : String} {aft : Array Edge} {g : Option (Nat × Bool)} {α : Type} {Rr : Rd α}

end
end Go.Fp
