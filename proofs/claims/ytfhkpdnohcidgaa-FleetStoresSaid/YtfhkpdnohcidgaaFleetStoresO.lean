/- What the arguments of the law read as. No condition. -/
import Derived.Test.YtfhkpdnohcidgaaProg
import Derived.Test.YtfhkpdnohcidgaaFleetStoresM
import Derived.Test.YtfhkpdnohcidgaaFpOpen
namespace Go.Proofs.Ytfhkpdnohcidgaa
open Go Go.Fp
theorem cel105 : Try.prog.cellsOf 105 = 2 := by kernel_rfl
theorem cel3 : Try.prog.cellsOf 3 = 1 := by kernel_rfl
theorem fb105_0 : fieldB Try.prog 105 0 3 0 1 = true := by kernel_rfl
theorem fb105_1 : fieldB Try.prog 105 1 3 1 1 = true := by kernel_rfl
theorem und3 : Try.prog.underlying 3 = some (.int .i64) := by kernel_rfl
theorem und44 : Try.prog.underlying 44 = some (.slice 3) := by kernel_rfl
theorem und53 : Try.prog.underlying 53 = some (.slice 105) := by kernel_rfl
theorem OFleetStay {W : World} : Opens Try.prog W 105 RFleetStay := by
  intro H enc fuel cs x h
  obtain ⟨hl, v0, h0⟩ := Opens.field fb105_0 (Opens.int und3) h
  obtain ⟨_, v1, h1⟩ := Opens.field fb105_1 (Opens.int und3) h
  rw [cel105] at hl
  match cs, hl with
  | [c0, c1], _ =>
    replace h0 : [c0] = [.int .i64 v0] := h0
    have e0 := h0
    simp only [List.cons.injEq, and_true] at e0
    subst e0
    replace h1 : [c1] = [.int .i64 v1] := h1
    have e1 := h1
    simp only [List.cons.injEq, and_true] at e1
    subst e1
    exact ⟨(FleetStay.mk v0 v1), rfl⟩
theorem und4 : Try.prog.underlying 4 = some .bool := by kernel_rfl
end Go.Proofs.Ytfhkpdnohcidgaa
