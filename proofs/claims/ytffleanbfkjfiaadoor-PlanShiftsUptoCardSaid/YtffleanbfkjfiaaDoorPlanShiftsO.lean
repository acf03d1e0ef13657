/- What the arguments of the law read as. No condition. -/
import Derived.Test.YtffleanbfkjfiaaDoorProg
import Derived.Test.YtffleanbfkjfiaaDoorPlanShiftsM
import Derived.Test.YtffleanbfkjfiaaDoorFpOpen
namespace Go.Proofs.YtffleanbfkjfiaaDoor
open Go Go.Fp
theorem cel25 : Tryd.prog.cellsOf 25 = 2 := by kernel_rfl
theorem cel29 : Tryd.prog.cellsOf 29 = 4 := by kernel_rfl
theorem cel3 : Tryd.prog.cellsOf 3 = 1 := by kernel_rfl
theorem cel31 : Tryd.prog.cellsOf 31 = 4 := by kernel_rfl
theorem cel33 : Tryd.prog.cellsOf 33 = 1 := by kernel_rfl
theorem fb25_0 : fieldB Tryd.prog 25 0 22 0 1 = true := by kernel_rfl
theorem fb25_1 : fieldB Tryd.prog 25 1 23 1 1 = true := by kernel_rfl
theorem fb29_0 : fieldB Tryd.prog 29 0 3 0 1 = true := by kernel_rfl
theorem fb29_1 : fieldB Tryd.prog 29 1 3 1 1 = true := by kernel_rfl
theorem fb29_2 : fieldB Tryd.prog 29 2 27 2 1 = true := by kernel_rfl
theorem fb29_3 : fieldB Tryd.prog 29 3 23 3 1 = true := by kernel_rfl
theorem fb31_0 : fieldB Tryd.prog 31 0 3 0 1 = true := by kernel_rfl
theorem fb31_1 : fieldB Tryd.prog 31 1 3 1 1 = true := by kernel_rfl
theorem fb31_2 : fieldB Tryd.prog 31 2 3 2 1 = true := by kernel_rfl
theorem fb31_3 : fieldB Tryd.prog 31 3 3 3 1 = true := by kernel_rfl
theorem und22 : Tryd.prog.underlying 22 = some (.slice 29) := by kernel_rfl
theorem und23 : Tryd.prog.underlying 23 = some (.slice 33) := by kernel_rfl
theorem und27 : Tryd.prog.underlying 27 = some (.slice 31) := by kernel_rfl
theorem und3 : Tryd.prog.underlying 3 = some (.int .i64) := by kernel_rfl
theorem und33 : Tryd.prog.underlying 33 = some (.slice 3) := by kernel_rfl
theorem OApiStop {W : World} : Opens Tryd.prog W 31 RApiStop := by
  intro H enc fuel cs x h
  obtain ⟨hl, v0, h0⟩ := Opens.field fb31_0 (Opens.int und3) h
  obtain ⟨_, v1, h1⟩ := Opens.field fb31_1 (Opens.int und3) h
  obtain ⟨_, v2, h2⟩ := Opens.field fb31_2 (Opens.int und3) h
  obtain ⟨_, v3, h3⟩ := Opens.field fb31_3 (Opens.int und3) h
  rw [cel31] at hl
  match cs, hl with
  | [c0, c1, c2, c3], _ =>
    replace h0 : [c0] = [.int .i64 v0] := h0
    have e0 := h0
    simp only [List.cons.injEq, and_true] at e0
    subst e0
    replace h1 : [c1] = [.int .i64 v1] := h1
    have e1 := h1
    simp only [List.cons.injEq, and_true] at e1
    subst e1
    replace h2 : [c2] = [.int .i64 v2] := h2
    have e2 := h2
    simp only [List.cons.injEq, and_true] at e2
    subst e2
    replace h3 : [c3] = [.int .i64 v3] := h3
    have e3 := h3
    simp only [List.cons.injEq, and_true] at e3
    subst e3
    exact ⟨(ApiStop.mk v0 v1 v2 v3), rfl⟩
theorem OApiTrain {W : World} : Opens Tryd.prog W 29 RApiTrain := by
  intro H enc fuel cs x h
  obtain ⟨hl, v0, h0⟩ := Opens.field fb29_0 (Opens.int und3) h
  obtain ⟨_, v1, h1⟩ := Opens.field fb29_1 (Opens.int und3) h
  obtain ⟨_, v2, h2⟩ := Opens.field fb29_2 (Opens.slice und27 cel31 (by decide) OApiStop) h
  obtain ⟨_, v3, h3⟩ := Opens.field fb29_3 (Opens.slice und23 cel33 (by decide) (Opens.slice und33 cel3 (by decide) (Opens.int und3))) h
  rw [cel29] at hl
  match cs, hl with
  | [c0, c1, c2, c3], _ =>
    replace h0 : [c0] = [.int .i64 v0] := h0
    have e0 := h0
    simp only [List.cons.injEq, and_true] at e0
    subst e0
    replace h1 : [c1] = [.int .i64 v1] := h1
    have e1 := h1
    simp only [List.cons.injEq, and_true] at e1
    subst e1
    obtain ⟨a2_0, k2_0, e2, q2_0⟩ := h2
    replace e2 : [c2] = [.slice a2_0 v2.length k2_0] := e2
    simp only [List.cons.injEq, and_true] at e2
    subst e2
    obtain ⟨a3_0, k3_0, e3, q3_0⟩ := h3
    replace e3 : [c3] = [.slice a3_0 v3.length k3_0] := e3
    simp only [List.cons.injEq, and_true] at e3
    subst e3
    exact ⟨(ApiTrain.mk v0 v1 v2 v3), a2_0, k2_0, a3_0, k3_0, rfl, q2_0, q3_0⟩
theorem OApiDay {W : World} : Opens Tryd.prog W 25 RApiDay := by
  intro H enc fuel cs x h
  obtain ⟨hl, v0, h0⟩ := Opens.field fb25_0 (Opens.slice und22 cel29 (by decide) OApiTrain) h
  obtain ⟨_, v1, h1⟩ := Opens.field fb25_1 (Opens.slice und23 cel33 (by decide) (Opens.slice und33 cel3 (by decide) (Opens.int und3))) h
  rw [cel25] at hl
  match cs, hl with
  | [c0, c1], _ =>
    obtain ⟨a0_0, k0_0, e0, q0_0⟩ := h0
    replace e0 : [c0] = [.slice a0_0 v0.length k0_0] := e0
    simp only [List.cons.injEq, and_true] at e0
    subst e0
    obtain ⟨a1_0, k1_0, e1, q1_0⟩ := h1
    replace e1 : [c1] = [.slice a1_0 v1.length k1_0] := e1
    simp only [List.cons.injEq, and_true] at e1
    subst e1
    exact ⟨(ApiDay.mk v0 v1), a0_0, k0_0, a1_0, k1_0, rfl, q0_0, q1_0⟩
theorem und4 : Tryd.prog.underlying 4 = some .bool := by kernel_rfl
end Go.Proofs.YtffleanbfkjfiaaDoor
