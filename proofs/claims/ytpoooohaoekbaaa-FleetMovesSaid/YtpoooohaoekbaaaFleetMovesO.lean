/- What the arguments of the law read as. No condition. -/
import Derived.Test.YtpoooohaoekbaaaProg
import Derived.Test.YtpoooohaoekbaaaFleetMovesM
import Derived.Test.YtpoooohaoekbaaaFpOpen
namespace Go.Proofs.Ytpoooohaoekbaaa
open Go Go.Fp
theorem cel22 : Try.prog.cellsOf 22 = 1 := by kernel_rfl
theorem cel25 : Try.prog.cellsOf 25 = 2 := by kernel_rfl
theorem cel3 : Try.prog.cellsOf 3 = 1 := by kernel_rfl
theorem cel44 : Try.prog.cellsOf 44 = 2 := by kernel_rfl
theorem fb25_0 : fieldB Try.prog 25 0 22 0 1 = true := by kernel_rfl
theorem fb25_1 : fieldB Try.prog 25 1 23 1 1 = true := by kernel_rfl
theorem fb44_0 : fieldB Try.prog 44 0 3 0 1 = true := by kernel_rfl
theorem fb44_1 : fieldB Try.prog 44 1 3 1 1 = true := by kernel_rfl
theorem und22 : Try.prog.underlying 22 = some (.slice 3) := by kernel_rfl
theorem und23 : Try.prog.underlying 23 = some (.slice 22) := by kernel_rfl
theorem und3 : Try.prog.underlying 3 = some (.int .i64) := by kernel_rfl
theorem und38 : Try.prog.underlying 38 = some (.slice 44) := by kernel_rfl
theorem OFleetDepot {W : World} : Opens Try.prog W 25 RFleetDepot := by
  intro H enc fuel cs x h
  obtain ⟨hl, v0, h0⟩ := Opens.field fb25_0 (Opens.slice und22 cel3 (by decide) (Opens.int und3)) h
  obtain ⟨_, v1, h1⟩ := Opens.field fb25_1 (Opens.slice und23 cel22 (by decide) (Opens.slice und22 cel3 (by decide) (Opens.int und3))) h
  rw [cel25] at hl
  match cs, hl with
  | [c0, c1], _ =>
    obtain ⟨a0, k0, e0, q0⟩ := h0
    replace e0 : [c0] = [.slice a0 v0.length k0] := e0
    simp only [List.cons.injEq, and_true] at e0
    subst e0
    obtain ⟨a1, k1, e1, q1⟩ := h1
    replace e1 : [c1] = [.slice a1 v1.length k1] := e1
    simp only [List.cons.injEq, and_true] at e1
    subst e1
    exact ⟨(FleetDepot.mk v0 v1), a0, k0, a1, k1, rfl, q0, q1⟩
theorem OFleetMove {W : World} : Opens Try.prog W 44 RFleetMove := by
  intro H enc fuel cs x h
  obtain ⟨hl, v0, h0⟩ := Opens.field fb44_0 (Opens.int und3) h
  obtain ⟨_, v1, h1⟩ := Opens.field fb44_1 (Opens.int und3) h
  rw [cel44] at hl
  match cs, hl with
  | [c0, c1], _ =>
    replace h0 : [c0] = [.int .i64 v0] := h0
    have e0 := h0
    simp only [List.cons.injEq, and_true] at e0
    subst e0
    replace h1 : [c1] = [.int .i64 v1] := h1
    have e1 := h1
    simp only [List.cons.injEq, and_true] at e1
    subst e1
    exact ⟨(FleetMove.mk v0 v1), rfl⟩
theorem und4 : Try.prog.underlying 4 = some .bool := by kernel_rfl
end Go.Proofs.Ytpoooohaoekbaaa
