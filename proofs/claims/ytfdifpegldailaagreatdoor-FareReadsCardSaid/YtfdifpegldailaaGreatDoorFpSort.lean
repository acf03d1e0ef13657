/- Sorting in place, and leaving out equal neighbours: what the library's contracts say, told of a slice of the call's own. No condition. -/
import Derived.Test.YtfdifpegldailaaGreatDoorFpGrow
import Derived.Sort.Row
import Derived.Sort.Grow
import Derived.Lib.SlicesCompact
namespace Go.Fp
open Go
section
variable {w : World} {s : Sg} {R : List HP} {e c n : Nat} {l : List Int} {b o : Nat} {cs : List Value}
theorem St.holds (hS : St w s (vecC e 1 (some ⟨b, o, none⟩) c n cs :: R)) (h : Ev 1 (RI .i64) s cs l) : Sort.Holds (Value.int .i64) w b o l.toArray := by
  rcases hS.vec 0 rfl with ⟨hcl, ⟨h0, _⟩ | ⟨b', o', cur, e1, e2, e3, e4, e5, e6, _⟩⟩
  · cases h0
  · cases e1
    intro j hj
    have hj' : j < l.length := by simpa using hj
    have hcs := h.ints
    refine ⟨?_, by simp [World.frozen?, e2]⟩
    have hv : cs[j]? = some (.int .i64 l[j]) := by rw [hcs, List.getElem?_map, List.getElem?_eq_getElem hj']; rfl
    have h1 := hS.vecSees 0 rfl 0 cs (fun j v hj => by simpa using hj) j _ hv
    have h2 : l.toArray[j]! = l[j] := by rw [getElem!_pos l.toArray j (by simpa using hj')]; simp
    rw [h2]
    simpa [ab, ao] using h1
end
end Go.Fp
