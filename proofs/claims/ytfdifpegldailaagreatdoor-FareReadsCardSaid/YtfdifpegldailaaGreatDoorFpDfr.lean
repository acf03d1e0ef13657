/- Functions that recover, with several results; their ends ahead of the deferral. No condition. -/
import Derived.Test.YtfdifpegldailaaGreatDoorFpPan
namespace Go.Fp
open Go
theorem W.toS {P : Program} {c : Code} {K : Kt} {A : Act} {w : World} {n : Nat} {E : Env} (hK : K.rd = none) (hE : Rep A n E) (h : ∀ a, Rep a n E → W P c K a w) : c.wpIn Fence.wide 0 P K.q A w := by
  have := h A hE
  obtain ⟨nor, ret, ex, pan, rd⟩ := K
  simp only at hK
  subst hK
  exact this
theorem finGD {P : Program} {fn : Func} {R : Ending → World → Prop} {a : Act} {w : World} {n : Nat} {E : Env} (hE : Rep a n E) {rs : List ResultVar} {vs : List Value} (hr : fn.results = rs.toArray) (h : rget P w E rs vs) (hR : R (.returned (rval vs)) w) (hm : E.marks = [] := by rfl) :
    LeavesInM Fence.wide 0 P fn a.tmps R a.defers .returning w := by
  rw [hE.defers, hm]
  exact ⟨_, run_resG hE hr h, hR⟩
end Go.Fp
