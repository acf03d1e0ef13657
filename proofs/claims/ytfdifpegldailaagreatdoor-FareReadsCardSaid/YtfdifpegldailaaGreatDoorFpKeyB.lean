/- Maps of the call's own, with keys that are bools. No condition. -/
import Derived.Test.YtfdifpegldailaaGreatDoorFpMap
namespace Go.Fp
open Go
def keyB : KeyK Bool where
  f := Value.bool
  ok := fun d => match d with | .bool => true | _ => false
  same := by intro d h a b; split at h <;> simp_all [Instr.sameNow]
  law := by simp
  refl := by simp
  bits := by simp [Instr.sameBits]
  chk := by
    intro P t d n e a w hu h
    split at h
    · simp [Instr.checkKey, run_underlying hu]
    · cases h
end Go.Fp
