/- Numbers that lie in their type's range, in data of any form. No condition. -/
import Derived.Test.YtngamgkmhgmmjaaGreatDoorFpBase
namespace Go.Fp
def inI (x : Int) : Prop := -9223372036854775808 ≤ x ∧ x ≤ 9223372036854775807
/-- a string's length -/
def inS (s : ByteArray) : Prop := s.size ≤ 9223372036854775807
def inA {α : Type} (_ : α) : Prop := True
def inL {α : Type} (I : α → Prop) (l : List α) : Prop := ∀ x ∈ l, I x
end Go.Fp
