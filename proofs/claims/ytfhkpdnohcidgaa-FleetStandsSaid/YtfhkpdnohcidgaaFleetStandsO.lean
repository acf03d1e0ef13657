/- What the arguments of the law read as. No condition. -/
import Derived.Test.YtfhkpdnohcidgaaProg
import Derived.Test.YtfhkpdnohcidgaaFleetStandsM
import Derived.Test.YtfhkpdnohcidgaaFpOpen
namespace Go.Proofs.Ytfhkpdnohcidgaa
open Go Go.Fp
theorem cel123 : Try.prog.cellsOf 123 = 2 := by kernel_rfl
theorem cel126 : Try.prog.cellsOf 126 = 3 := by kernel_rfl
theorem cel24 : Try.prog.cellsOf 24 = 7 := by kernel_rfl
theorem cel3 : Try.prog.cellsOf 3 = 1 := by kernel_rfl
theorem cel44 : Try.prog.cellsOf 44 = 1 := by kernel_rfl
theorem fb123_0 : fieldB Try.prog 123 0 3 0 1 = true := by kernel_rfl
theorem fb123_1 : fieldB Try.prog 123 1 3 1 1 = true := by kernel_rfl
theorem fb126_0 : fieldB Try.prog 126 0 3 0 1 = true := by kernel_rfl
theorem fb126_1 : fieldB Try.prog 126 1 3 1 1 = true := by kernel_rfl
theorem fb126_2 : fieldB Try.prog 126 2 3 2 1 = true := by kernel_rfl
theorem fb24_0 : fieldB Try.prog 24 0 3 0 1 = true := by kernel_rfl
theorem fb24_1 : fieldB Try.prog 24 1 3 1 1 = true := by kernel_rfl
theorem fb24_2 : fieldB Try.prog 24 2 3 2 1 = true := by kernel_rfl
theorem fb24_3 : fieldB Try.prog 24 3 3 3 1 = true := by kernel_rfl
theorem fb24_4 : fieldB Try.prog 24 4 3 4 1 = true := by kernel_rfl
theorem fb24_5 : fieldB Try.prog 24 5 3 5 1 = true := by kernel_rfl
theorem fb24_6 : fieldB Try.prog 24 6 3 6 1 = true := by kernel_rfl
theorem und22 : Try.prog.underlying 22 = some (.slice 126) := by kernel_rfl
theorem und25 : Try.prog.underlying 25 = some (.slice 44) := by kernel_rfl
theorem und3 : Try.prog.underlying 3 = some (.int .i64) := by kernel_rfl
theorem und44 : Try.prog.underlying 44 = some (.slice 3) := by kernel_rfl
theorem und59 : Try.prog.underlying 59 = some (.slice 123) := by kernel_rfl
theorem OFleetShift {W : World} : Opens Try.prog W 126 RFleetShift := by
  intro H enc fuel cs x h
  obtain ⟨hl, v0, h0⟩ := Opens.field fb126_0 (Opens.int und3) h
  obtain ⟨_, v1, h1⟩ := Opens.field fb126_1 (Opens.int und3) h
  obtain ⟨_, v2, h2⟩ := Opens.field fb126_2 (Opens.int und3) h
  rw [cel126] at hl
  match cs, hl with
  | [c0, c1, c2], _ =>
    replace h0 : [c0] = [.int .i64 v0] := h0
    have e0 := h0
    simp only [List.cons.injEq, and_true] at e0
    subst e0
    replace h1 : [c1] = [.int .i64 v1] := h1
    have e1 := h1
    simp only [List.cons.injEq, and_true] at e1
    subst e1
    replace h2 : [c2] = [.int .i64 v2] := h2
    have e2 := h2
    simp only [List.cons.injEq, and_true] at e2
    subst e2
    exact ⟨(FleetShift.mk v0 v1 v2), rfl⟩
theorem OFleetLimits {W : World} : Opens Try.prog W 24 RFleetLimits := by
  intro H enc fuel cs x h
  obtain ⟨hl, v0, h0⟩ := Opens.field fb24_0 (Opens.int und3) h
  obtain ⟨_, v1, h1⟩ := Opens.field fb24_1 (Opens.int und3) h
  obtain ⟨_, v2, h2⟩ := Opens.field fb24_2 (Opens.int und3) h
  obtain ⟨_, v3, h3⟩ := Opens.field fb24_3 (Opens.int und3) h
  obtain ⟨_, v4, h4⟩ := Opens.field fb24_4 (Opens.int und3) h
  obtain ⟨_, v5, h5⟩ := Opens.field fb24_5 (Opens.int und3) h
  obtain ⟨_, v6, h6⟩ := Opens.field fb24_6 (Opens.int und3) h
  rw [cel24] at hl
  match cs, hl with
  | [c0, c1, c2, c3, c4, c5, c6], _ =>
    replace h0 : [c0] = [.int .i64 v0] := h0
    have e0 := h0
    simp only [List.cons.injEq, and_true] at e0
    subst e0
    replace h1 : [c1] = [.int .i64 v1] := h1
    have e1 := h1
    simp only [List.cons.injEq, and_true] at e1
    subst e1
    replace h2 : [c2] = [.int .i64 v2] := h2
    have e2 := h2
    simp only [List.cons.injEq, and_true] at e2
    subst e2
    replace h3 : [c3] = [.int .i64 v3] := h3
    have e3 := h3
    simp only [List.cons.injEq, and_true] at e3
    subst e3
    replace h4 : [c4] = [.int .i64 v4] := h4
    have e4 := h4
    simp only [List.cons.injEq, and_true] at e4
    subst e4
    replace h5 : [c5] = [.int .i64 v5] := h5
    have e5 := h5
    simp only [List.cons.injEq, and_true] at e5
    subst e5
    replace h6 : [c6] = [.int .i64 v6] := h6
    have e6 := h6
    simp only [List.cons.injEq, and_true] at e6
    subst e6
    exact ⟨(FleetLimits.mk v0 v1 v2 v3 v4 v5 v6), rfl⟩
theorem OFleetAbsence {W : World} : Opens Try.prog W 123 RFleetAbsence := by
  intro H enc fuel cs x h
  obtain ⟨hl, v0, h0⟩ := Opens.field fb123_0 (Opens.int und3) h
  obtain ⟨_, v1, h1⟩ := Opens.field fb123_1 (Opens.int und3) h
  rw [cel123] at hl
  match cs, hl with
  | [c0, c1], _ =>
    replace h0 : [c0] = [.int .i64 v0] := h0
    have e0 := h0
    simp only [List.cons.injEq, and_true] at e0
    subst e0
    replace h1 : [c1] = [.int .i64 v1] := h1
    have e1 := h1
    simp only [List.cons.injEq, and_true] at e1
    subst e1
    exact ⟨(FleetAbsence.mk v0 v1), rfl⟩
theorem und4 : Try.prog.underlying 4 = some .bool := by kernel_rfl
end Go.Proofs.Ytfhkpdnohcidgaa
