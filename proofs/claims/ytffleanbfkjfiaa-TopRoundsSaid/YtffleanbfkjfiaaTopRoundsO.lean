/- What the arguments of the law read as. No condition. -/
import Derived.Test.YtffleanbfkjfiaaProg
import Derived.Test.YtffleanbfkjfiaaTopRoundsM
import Derived.Test.YtffleanbfkjfiaaFpOpen
namespace Go.Proofs.Ytffleanbfkjfiaa
open Go Go.Fp
theorem cel24 : Try.prog.cellsOf 24 = 3 := by kernel_rfl
theorem cel37 : Try.prog.cellsOf 37 = 5 := by kernel_rfl
theorem fb24_0 : fieldB Try.prog 24 0 3 0 1 = true := by kernel_rfl
theorem fb24_1 : fieldB Try.prog 24 1 3 1 1 = true := by kernel_rfl
theorem fb24_2 : fieldB Try.prog 24 2 22 2 1 = true := by kernel_rfl
theorem fb37_0 : fieldB Try.prog 37 0 3 0 1 = true := by kernel_rfl
theorem fb37_1 : fieldB Try.prog 37 1 3 1 1 = true := by kernel_rfl
theorem fb37_2 : fieldB Try.prog 37 2 3 2 1 = true := by kernel_rfl
theorem fb37_3 : fieldB Try.prog 37 3 3 3 1 = true := by kernel_rfl
theorem fb37_4 : fieldB Try.prog 37 4 3 4 1 = true := by kernel_rfl
theorem und22 : Try.prog.underlying 22 = some (.slice 37) := by kernel_rfl
theorem und3 : Try.prog.underlying 3 = some (.int .i64) := by kernel_rfl
theorem OPlanRule {W : World} : Opens Try.prog W 37 RPlanRule := by
  intro H enc fuel cs x h
  obtain ⟨hl, v0, h0⟩ := Opens.field fb37_0 (Opens.int und3) h
  obtain ⟨_, v1, h1⟩ := Opens.field fb37_1 (Opens.int und3) h
  obtain ⟨_, v2, h2⟩ := Opens.field fb37_2 (Opens.int und3) h
  obtain ⟨_, v3, h3⟩ := Opens.field fb37_3 (Opens.int und3) h
  obtain ⟨_, v4, h4⟩ := Opens.field fb37_4 (Opens.int und3) h
  rw [cel37] at hl
  match cs, hl with
  | [c0, c1, c2, c3, c4], _ =>
    replace h0 : [c0] = [.int .i64 v0] := h0
    have e0 := h0
    simp only [List.cons.injEq, and_true] at e0
    subst e0
    replace h1 : [c1] = [.int .i64 v1] := h1
    have e1 := h1
    simp only [List.cons.injEq, and_true] at e1
    subst e1
    replace h2 : [c2] = [.int .i64 v2] := h2
    have e2 := h2
    simp only [List.cons.injEq, and_true] at e2
    subst e2
    replace h3 : [c3] = [.int .i64 v3] := h3
    have e3 := h3
    simp only [List.cons.injEq, and_true] at e3
    subst e3
    replace h4 : [c4] = [.int .i64 v4] := h4
    have e4 := h4
    simp only [List.cons.injEq, and_true] at e4
    subst e4
    exact ⟨(PlanRule.mk v0 v1 v2 v3 v4), rfl⟩
theorem OPlanPeriodic {W : World} : Opens Try.prog W 24 RPlanPeriodic := by
  intro H enc fuel cs x h
  obtain ⟨hl, v0, h0⟩ := Opens.field fb24_0 (Opens.int und3) h
  obtain ⟨_, v1, h1⟩ := Opens.field fb24_1 (Opens.int und3) h
  obtain ⟨_, v2, h2⟩ := Opens.field fb24_2 (Opens.slice und22 cel37 (by decide) OPlanRule) h
  rw [cel24] at hl
  match cs, hl with
  | [c0, c1, c2], _ =>
    replace h0 : [c0] = [.int .i64 v0] := h0
    have e0 := h0
    simp only [List.cons.injEq, and_true] at e0
    subst e0
    replace h1 : [c1] = [.int .i64 v1] := h1
    have e1 := h1
    simp only [List.cons.injEq, and_true] at e1
    subst e1
    obtain ⟨a2_0, k2_0, e2, q2_0⟩ := h2
    replace e2 : [c2] = [.slice a2_0 v2.length k2_0] := e2
    simp only [List.cons.injEq, and_true] at e2
    subst e2
    exact ⟨(PlanPeriodic.mk v0 v1 v2), a2_0, k2_0, rfl, q2_0⟩
theorem und4 : Try.prog.underlying 4 = some .bool := by kernel_rfl
end Go.Proofs.Ytffleanbfkjfiaa
