/- What the arguments of the law read as. No condition. -/
import Derived.Test.YtdioaeeaifahnaaProg
import Derived.Test.YtdioaeeaifahnaaFarePacksM
import Derived.Test.YtdioaeeaifahnaaFpOpen
namespace Go.Proofs.Ytdioaeeaifahnaa
open Go Go.Fp
theorem cel124 : Try.prog.cellsOf 124 = 2 := by kernel_rfl
theorem fb124_0 : fieldB Try.prog 124 0 3 0 1 = true := by kernel_rfl
theorem fb124_1 : fieldB Try.prog 124 1 3 1 1 = true := by kernel_rfl
theorem und3 : Try.prog.underlying 3 = some (.int .i64) := by kernel_rfl
theorem und54 : Try.prog.underlying 54 = some (.slice 124) := by kernel_rfl
theorem OFareSpan {W : World} : Opens Try.prog W 124 RFareSpan := by
  intro H enc fuel cs x h
  obtain ⟨hl, v0, h0⟩ := Opens.field fb124_0 (Opens.int und3) h
  obtain ⟨_, v1, h1⟩ := Opens.field fb124_1 (Opens.int und3) h
  rw [cel124] at hl
  match cs, hl with
  | [c0, c1], _ =>
    replace h0 : [c0] = [.int .i64 v0] := h0
    have e0 := h0
    simp only [List.cons.injEq, and_true] at e0
    subst e0
    replace h1 : [c1] = [.int .i64 v1] := h1
    have e1 := h1
    simp only [List.cons.injEq, and_true] at e1
    subst e1
    exact ⟨(FareSpan.mk v0 v1), rfl⟩
theorem und4 : Try.prog.underlying 4 = some .bool := by kernel_rfl
end Go.Proofs.Ytdioaeeaifahnaa
