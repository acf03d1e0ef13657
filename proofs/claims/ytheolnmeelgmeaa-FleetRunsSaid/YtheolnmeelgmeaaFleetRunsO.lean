/- What the arguments of the law read as. No condition. -/
import Derived.Test.YtheolnmeelgmeaaProg
import Derived.Test.YtheolnmeelgmeaaFleetRunsM
import Derived.Test.YtheolnmeelgmeaaFpOpen
namespace Go.Proofs.Ytheolnmeelgmeaa
open Go Go.Fp
theorem cel3 : Try.prog.cellsOf 3 = 1 := by kernel_rfl
theorem cel31 : Try.prog.cellsOf 31 = 1 := by kernel_rfl
theorem cel34 : Try.prog.cellsOf 34 = 6 := by kernel_rfl
theorem fb34_0 : fieldB Try.prog 34 0 3 0 1 = true := by kernel_rfl
theorem fb34_1 : fieldB Try.prog 34 1 3 1 1 = true := by kernel_rfl
theorem fb34_2 : fieldB Try.prog 34 2 3 2 1 = true := by kernel_rfl
theorem fb34_3 : fieldB Try.prog 34 3 3 3 1 = true := by kernel_rfl
theorem fb34_4 : fieldB Try.prog 34 4 3 4 1 = true := by kernel_rfl
theorem fb34_5 : fieldB Try.prog 34 5 3 5 1 = true := by kernel_rfl
theorem und22 : Try.prog.underlying 22 = some (.slice 34) := by kernel_rfl
theorem und23 : Try.prog.underlying 23 = some (.slice 31) := by kernel_rfl
theorem und3 : Try.prog.underlying 3 = some (.int .i64) := by kernel_rfl
theorem und31 : Try.prog.underlying 31 = some (.slice 3) := by kernel_rfl
theorem OFleetTask {W : World} : Opens Try.prog W 34 RFleetTask := by
  intro H enc fuel cs x h
  obtain ⟨hl, v0, h0⟩ := Opens.field fb34_0 (Opens.int und3) h
  obtain ⟨_, v1, h1⟩ := Opens.field fb34_1 (Opens.int und3) h
  obtain ⟨_, v2, h2⟩ := Opens.field fb34_2 (Opens.int und3) h
  obtain ⟨_, v3, h3⟩ := Opens.field fb34_3 (Opens.int und3) h
  obtain ⟨_, v4, h4⟩ := Opens.field fb34_4 (Opens.int und3) h
  obtain ⟨_, v5, h5⟩ := Opens.field fb34_5 (Opens.int und3) h
  rw [cel34] at hl
  match cs, hl with
  | [c0, c1, c2, c3, c4, c5], _ =>
    replace h0 : [c0] = [.int .i64 v0] := h0
    have e0 := h0
    simp only [List.cons.injEq, and_true] at e0
    subst e0
    replace h1 : [c1] = [.int .i64 v1] := h1
    have e1 := h1
    simp only [List.cons.injEq, and_true] at e1
    subst e1
    replace h2 : [c2] = [.int .i64 v2] := h2
    have e2 := h2
    simp only [List.cons.injEq, and_true] at e2
    subst e2
    replace h3 : [c3] = [.int .i64 v3] := h3
    have e3 := h3
    simp only [List.cons.injEq, and_true] at e3
    subst e3
    replace h4 : [c4] = [.int .i64 v4] := h4
    have e4 := h4
    simp only [List.cons.injEq, and_true] at e4
    subst e4
    replace h5 : [c5] = [.int .i64 v5] := h5
    have e5 := h5
    simp only [List.cons.injEq, and_true] at e5
    subst e5
    exact ⟨(FleetTask.mk v0 v1 v2 v3 v4 v5), rfl⟩
theorem und4 : Try.prog.underlying 4 = some .bool := by kernel_rfl
end Go.Proofs.Ytheolnmeelgmeaa
