/- What the arguments of the law read as. No condition. -/
import Derived.Test.YtfhkpdnohcidgaaDoorProg
import Derived.Test.YtfhkpdnohcidgaaDoorFleetShuntsM
import Derived.Test.YtfhkpdnohcidgaaDoorFpOpen
namespace Go.Proofs.YtfhkpdnohcidgaaDoor
open Go Go.Fp
theorem cel22 : Tryd.prog.cellsOf 22 = 1 := by kernel_rfl
theorem cel25 : Tryd.prog.cellsOf 25 = 2 := by kernel_rfl
theorem cel3 : Tryd.prog.cellsOf 3 = 1 := by kernel_rfl
theorem fb25_0 : fieldB Tryd.prog 25 0 22 0 1 = true := by kernel_rfl
theorem fb25_1 : fieldB Tryd.prog 25 1 23 1 1 = true := by kernel_rfl
theorem und22 : Tryd.prog.underlying 22 = some (.slice 3) := by kernel_rfl
theorem und23 : Tryd.prog.underlying 23 = some (.slice 22) := by kernel_rfl
theorem und3 : Tryd.prog.underlying 3 = some (.int .i64) := by kernel_rfl
theorem OFleetDepot {W : World} : Opens Tryd.prog W 25 RFleetDepot := by
  intro H enc fuel cs x h
  obtain ⟨hl, v0, h0⟩ := Opens.field fb25_0 (Opens.slice und22 cel3 (by decide) (Opens.int und3)) h
  obtain ⟨_, v1, h1⟩ := Opens.field fb25_1 (Opens.slice und23 cel22 (by decide) (Opens.slice und22 cel3 (by decide) (Opens.int und3))) h
  rw [cel25] at hl
  match cs, hl with
  | [c0, c1], _ =>
    obtain ⟨a0_0, k0_0, e0, q0_0⟩ := h0
    replace e0 : [c0] = [.slice a0_0 v0.length k0_0] := e0
    simp only [List.cons.injEq, and_true] at e0
    subst e0
    obtain ⟨a1_0, k1_0, e1, q1_0⟩ := h1
    replace e1 : [c1] = [.slice a1_0 v1.length k1_0] := e1
    simp only [List.cons.injEq, and_true] at e1
    subst e1
    exact ⟨(FleetDepot.mk v0 v1), a0_0, k0_0, a1_0, k1_0, rfl, q0_0, q1_0⟩
theorem und4 : Tryd.prog.underlying 4 = some .bool := by kernel_rfl
end Go.Proofs.YtfhkpdnohcidgaaDoor
