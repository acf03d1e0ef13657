/- What the arguments of the law read as. No condition. -/
import Derived.Test.YtpogcicepceljaaDoorProg
import Derived.Test.YtpogcicepceljaaDoorPlanAssignsM
import Derived.Test.YtpogcicepceljaaDoorFpOpen
namespace Go.Proofs.YtpogcicepceljaaDoor
open Go Go.Fp
theorem cel3 : Tryd.prog.cellsOf 3 = 1 := by kernel_rfl
theorem cel31 : Tryd.prog.cellsOf 31 = 3 := by kernel_rfl
theorem fb31_0 : fieldB Tryd.prog 31 0 3 0 1 = true := by kernel_rfl
theorem fb31_1 : fieldB Tryd.prog 31 1 3 1 1 = true := by kernel_rfl
theorem fb31_2 : fieldB Tryd.prog 31 2 23 2 1 = true := by kernel_rfl
theorem und22 : Tryd.prog.underlying 22 = some (.slice 31) := by kernel_rfl
theorem und23 : Tryd.prog.underlying 23 = some (.slice 3) := by kernel_rfl
theorem und3 : Tryd.prog.underlying 3 = some (.int .i64) := by kernel_rfl
theorem OPlanStay {W : World} : Opens Tryd.prog W 31 RPlanStay := by
  intro H enc fuel cs x h
  obtain ⟨hl, v0, h0⟩ := Opens.field fb31_0 (Opens.int und3) h
  obtain ⟨_, v1, h1⟩ := Opens.field fb31_1 (Opens.int und3) h
  obtain ⟨_, v2, h2⟩ := Opens.field fb31_2 (Opens.slice und23 cel3 (by decide) (Opens.int und3)) h
  rw [cel31] at hl
  match cs, hl with
  | [c0, c1, c2], _ =>
    replace h0 : [c0] = [.int .i64 v0] := h0
    have e0 := h0
    simp only [List.cons.injEq, and_true] at e0
    subst e0
    replace h1 : [c1] = [.int .i64 v1] := h1
    have e1 := h1
    simp only [List.cons.injEq, and_true] at e1
    subst e1
    obtain ⟨a2_0, k2_0, e2, q2_0⟩ := h2
    replace e2 : [c2] = [.slice a2_0 v2.length k2_0] := e2
    simp only [List.cons.injEq, and_true] at e2
    subst e2
    exact ⟨(PlanStay.mk v0 v1 v2), a2_0, k2_0, rfl, q2_0⟩
theorem und4 : Tryd.prog.underlying 4 = some .bool := by kernel_rfl
end Go.Proofs.YtpogcicepceljaaDoor
