/- Sorting in place, of longer slices. No condition. -/
import Derived.Test.YtckhpgbcajnpnaaFpSort
import Derived.Test.YtckhpgbcajnpnaaFpWide
namespace Go.Fp
/-- the sorted list, up to the length that the library's contract serves -/
def srw (l : List Int) : Option (List Int) := if l.length < 4611686018427387904 then some (isort l) else none
theorem srw_some {l r : List Int} (h : srw l = some r) : l.length < 4611686018427387904 ∧ r = isort l := by
  unfold srw at h
  split at h
  · rename_i h1; simp at h; exact ⟨h1, h.symm⟩
  · cases h
end Go.Fp
