/- What the arguments of the law read as. No condition. -/
import Derived.Test.YtkagiigknockbaaDoorProg
import Derived.Test.YtkagiigknockbaaDoorPlanShiftsM
import Derived.Test.YtkagiigknockbaaDoorFpOpen
namespace Go.Proofs.YtkagiigknockbaaDoor
open Go Go.Fp
theorem cel25 : Tryd.prog.cellsOf 25 = 2 := by kernel_rfl
theorem cel3 : Tryd.prog.cellsOf 3 = 1 := by kernel_rfl
theorem cel37 : Tryd.prog.cellsOf 37 = 4 := by kernel_rfl
theorem cel41 : Tryd.prog.cellsOf 41 = 4 := by kernel_rfl
theorem cel47 : Tryd.prog.cellsOf 47 = 1 := by kernel_rfl
theorem fb25_0 : fieldB Tryd.prog 25 0 22 0 1 = true := by kernel_rfl
theorem fb25_1 : fieldB Tryd.prog 25 1 23 1 1 = true := by kernel_rfl
theorem fb37_0 : fieldB Tryd.prog 37 0 3 0 1 = true := by kernel_rfl
theorem fb37_1 : fieldB Tryd.prog 37 1 3 1 1 = true := by kernel_rfl
theorem fb37_2 : fieldB Tryd.prog 37 2 35 2 1 = true := by kernel_rfl
theorem fb37_3 : fieldB Tryd.prog 37 3 23 3 1 = true := by kernel_rfl
theorem fb41_0 : fieldB Tryd.prog 41 0 3 0 1 = true := by kernel_rfl
theorem fb41_1 : fieldB Tryd.prog 41 1 3 1 1 = true := by kernel_rfl
theorem fb41_2 : fieldB Tryd.prog 41 2 3 2 1 = true := by kernel_rfl
theorem fb41_3 : fieldB Tryd.prog 41 3 3 3 1 = true := by kernel_rfl
theorem und22 : Tryd.prog.underlying 22 = some (.slice 37) := by kernel_rfl
theorem und23 : Tryd.prog.underlying 23 = some (.slice 47) := by kernel_rfl
theorem und3 : Tryd.prog.underlying 3 = some (.int .i64) := by kernel_rfl
theorem und35 : Tryd.prog.underlying 35 = some (.slice 41) := by kernel_rfl
theorem und47 : Tryd.prog.underlying 47 = some (.slice 3) := by kernel_rfl
theorem OApiStop {W : World} : Opens Tryd.prog W 41 RApiStop := by
  intro H enc fuel cs x h
  obtain ⟨hl, v0, h0⟩ := Opens.field fb41_0 (Opens.int und3) h
  obtain ⟨_, v1, h1⟩ := Opens.field fb41_1 (Opens.int und3) h
  obtain ⟨_, v2, h2⟩ := Opens.field fb41_2 (Opens.int und3) h
  obtain ⟨_, v3, h3⟩ := Opens.field fb41_3 (Opens.int und3) h
  rw [cel41] at hl
  match cs, hl with
  | [c0, c1, c2, c3], _ =>
    replace h0 : [c0] = [.int .i64 v0] := h0
    have e0 := h0
    simp only [List.cons.injEq, and_true] at e0
    subst e0
    replace h1 : [c1] = [.int .i64 v1] := h1
    have e1 := h1
    simp only [List.cons.injEq, and_true] at e1
    subst e1
    replace h2 : [c2] = [.int .i64 v2] := h2
    have e2 := h2
    simp only [List.cons.injEq, and_true] at e2
    subst e2
    replace h3 : [c3] = [.int .i64 v3] := h3
    have e3 := h3
    simp only [List.cons.injEq, and_true] at e3
    subst e3
    exact ⟨(ApiStop.mk v0 v1 v2 v3), rfl⟩
theorem OApiTrain {W : World} : Opens Tryd.prog W 37 RApiTrain := by
  intro H enc fuel cs x h
  obtain ⟨hl, v0, h0⟩ := Opens.field fb37_0 (Opens.int und3) h
  obtain ⟨_, v1, h1⟩ := Opens.field fb37_1 (Opens.int und3) h
  obtain ⟨_, v2, h2⟩ := Opens.field fb37_2 (Opens.slice und35 cel41 (by decide) OApiStop) h
  obtain ⟨_, v3, h3⟩ := Opens.field fb37_3 (Opens.slice und23 cel47 (by decide) (Opens.slice und47 cel3 (by decide) (Opens.int und3))) h
  rw [cel37] at hl
  match cs, hl with
  | [c0, c1, c2, c3], _ =>
    replace h0 : [c0] = [.int .i64 v0] := h0
    have e0 := h0
    simp only [List.cons.injEq, and_true] at e0
    subst e0
    replace h1 : [c1] = [.int .i64 v1] := h1
    have e1 := h1
    simp only [List.cons.injEq, and_true] at e1
    subst e1
    obtain ⟨a2_0, k2_0, e2, q2_0⟩ := h2
    replace e2 : [c2] = [.slice a2_0 v2.length k2_0] := e2
    simp only [List.cons.injEq, and_true] at e2
    subst e2
    obtain ⟨a3_0, k3_0, e3, q3_0⟩ := h3
    replace e3 : [c3] = [.slice a3_0 v3.length k3_0] := e3
    simp only [List.cons.injEq, and_true] at e3
    subst e3
    exact ⟨(ApiTrain.mk v0 v1 v2 v3), a2_0, k2_0, a3_0, k3_0, rfl, q2_0, q3_0⟩
theorem OApiDay {W : World} : Opens Tryd.prog W 25 RApiDay := by
  intro H enc fuel cs x h
  obtain ⟨hl, v0, h0⟩ := Opens.field fb25_0 (Opens.slice und22 cel37 (by decide) OApiTrain) h
  obtain ⟨_, v1, h1⟩ := Opens.field fb25_1 (Opens.slice und23 cel47 (by decide) (Opens.slice und47 cel3 (by decide) (Opens.int und3))) h
  rw [cel25] at hl
  match cs, hl with
  | [c0, c1], _ =>
    obtain ⟨a0_0, k0_0, e0, q0_0⟩ := h0
    replace e0 : [c0] = [.slice a0_0 v0.length k0_0] := e0
    simp only [List.cons.injEq, and_true] at e0
    subst e0
    obtain ⟨a1_0, k1_0, e1, q1_0⟩ := h1
    replace e1 : [c1] = [.slice a1_0 v1.length k1_0] := e1
    simp only [List.cons.injEq, and_true] at e1
    subst e1
    exact ⟨(ApiDay.mk v0 v1), a0_0, k0_0, a1_0, k1_0, rfl, q0_0, q1_0⟩
theorem und4 : Tryd.prog.underlying 4 = some .bool := by kernel_rfl
end Go.Proofs.YtkagiigknockbaaDoor
