/- What the arguments of the law read as. No condition. -/
import Derived.Test.YtpcebngchmgckaaGreatDoorProg
import Derived.Test.YtpcebngchmgckaaGreatDoorGuideBoardsM
import Derived.Test.YtpcebngchmgckaaGreatDoorFpOpen
import Derived.Test.YtpcebngchmgckaaGreatDoorFpIn
namespace Go.Proofs.YtpcebngchmgckaaGreatDoor
open Go Go.Fp
theorem cel111 : Tryz.prog.cellsOf 111 = 4 := by kernel_rfl
theorem cel25 : Tryz.prog.cellsOf 25 = 2 := by kernel_rfl
theorem cel3 : Tryz.prog.cellsOf 3 = 1 := by kernel_rfl
theorem cel65 : Tryz.prog.cellsOf 65 = 1 := by kernel_rfl
theorem cel99 : Tryz.prog.cellsOf 99 = 4 := by kernel_rfl
theorem fb111_0 : fieldB Tryz.prog 111 0 3 0 1 = true := by kernel_rfl
theorem fb111_1 : fieldB Tryz.prog 111 1 3 1 1 = true := by kernel_rfl
theorem fb111_2 : fieldB Tryz.prog 111 2 109 2 1 = true := by kernel_rfl
theorem fb111_3 : fieldB Tryz.prog 111 3 23 3 1 = true := by kernel_rfl
theorem fb25_0 : fieldB Tryz.prog 25 0 22 0 1 = true := by kernel_rfl
theorem fb25_1 : fieldB Tryz.prog 25 1 23 1 1 = true := by kernel_rfl
theorem fb99_0 : fieldB Tryz.prog 99 0 3 0 1 = true := by kernel_rfl
theorem fb99_1 : fieldB Tryz.prog 99 1 3 1 1 = true := by kernel_rfl
theorem fb99_2 : fieldB Tryz.prog 99 2 3 2 1 = true := by kernel_rfl
theorem fb99_3 : fieldB Tryz.prog 99 3 3 3 1 = true := by kernel_rfl
theorem und109 : Tryz.prog.underlying 109 = some (.slice 99) := by kernel_rfl
theorem und22 : Tryz.prog.underlying 22 = some (.slice 111) := by kernel_rfl
theorem und23 : Tryz.prog.underlying 23 = some (.slice 65) := by kernel_rfl
theorem und3 : Tryz.prog.underlying 3 = some (.int .i64) := by kernel_rfl
theorem und65 : Tryz.prog.underlying 65 = some (.slice 3) := by kernel_rfl
theorem OApiStop {W : World} : Opens Tryz.prog W 99 RApiStop := by
  intro H enc fuel cs x h
  obtain ⟨hl, v0, h0⟩ := Opens.field fb99_0 (Opens.int und3) h
  obtain ⟨_, v1, h1⟩ := Opens.field fb99_1 (Opens.int und3) h
  obtain ⟨_, v2, h2⟩ := Opens.field fb99_2 (Opens.int und3) h
  obtain ⟨_, v3, h3⟩ := Opens.field fb99_3 (Opens.int und3) h
  rw [cel99] at hl
  match cs, hl with
  | [c0, c1, c2, c3], _ =>
    replace h0 : [c0] = [.int .i64 v0] := h0
    have e0 := h0
    simp only [List.cons.injEq, and_true] at e0
    subst e0
    replace h1 : [c1] = [.int .i64 v1] := h1
    have e1 := h1
    simp only [List.cons.injEq, and_true] at e1
    subst e1
    replace h2 : [c2] = [.int .i64 v2] := h2
    have e2 := h2
    simp only [List.cons.injEq, and_true] at e2
    subst e2
    replace h3 : [c3] = [.int .i64 v3] := h3
    have e3 := h3
    simp only [List.cons.injEq, and_true] at e3
    subst e3
    exact ⟨(ApiStop.mk v0 v1 v2 v3), rfl⟩
theorem OApiTrain {W : World} : Opens Tryz.prog W 111 RApiTrain := by
  intro H enc fuel cs x h
  obtain ⟨hl, v0, h0⟩ := Opens.field fb111_0 (Opens.int und3) h
  obtain ⟨_, v1, h1⟩ := Opens.field fb111_1 (Opens.int und3) h
  obtain ⟨_, v2, h2⟩ := Opens.field fb111_2 (Opens.slice und109 cel99 (by decide) OApiStop) h
  obtain ⟨_, v3, h3⟩ := Opens.field fb111_3 (Opens.slice und23 cel65 (by decide) (Opens.slice und65 cel3 (by decide) (Opens.int und3))) h
  rw [cel111] at hl
  match cs, hl with
  | [c0, c1, c2, c3], _ =>
    replace h0 : [c0] = [.int .i64 v0] := h0
    have e0 := h0
    simp only [List.cons.injEq, and_true] at e0
    subst e0
    replace h1 : [c1] = [.int .i64 v1] := h1
    have e1 := h1
    simp only [List.cons.injEq, and_true] at e1
    subst e1
    obtain ⟨a2_0, k2_0, e2, q2_0⟩ := h2
    replace e2 : [c2] = [.slice a2_0 v2.length k2_0] := e2
    simp only [List.cons.injEq, and_true] at e2
    subst e2
    obtain ⟨a3_0, k3_0, e3, q3_0⟩ := h3
    replace e3 : [c3] = [.slice a3_0 v3.length k3_0] := e3
    simp only [List.cons.injEq, and_true] at e3
    subst e3
    exact ⟨(ApiTrain.mk v0 v1 v2 v3), a2_0, k2_0, a3_0, k3_0, rfl, q2_0, q3_0⟩
theorem OApiDay {W : World} : Opens Tryz.prog W 25 RApiDay := by
  intro H enc fuel cs x h
  obtain ⟨hl, v0, h0⟩ := Opens.field fb25_0 (Opens.slice und22 cel111 (by decide) OApiTrain) h
  obtain ⟨_, v1, h1⟩ := Opens.field fb25_1 (Opens.slice und23 cel65 (by decide) (Opens.slice und65 cel3 (by decide) (Opens.int und3))) h
  rw [cel25] at hl
  match cs, hl with
  | [c0, c1], _ =>
    obtain ⟨a0_0, k0_0, e0, q0_0⟩ := h0
    replace e0 : [c0] = [.slice a0_0 v0.length k0_0] := e0
    simp only [List.cons.injEq, and_true] at e0
    subst e0
    obtain ⟨a1_0, k1_0, e1, q1_0⟩ := h1
    replace e1 : [c1] = [.slice a1_0 v1.length k1_0] := e1
    simp only [List.cons.injEq, and_true] at e1
    subst e1
    exact ⟨(ApiDay.mk v0 v1), a0_0, k0_0, a1_0, k1_0, rfl, q0_0, q1_0⟩

theorem OIApiStop {W : World} : OpensI Tryz.prog W 99 RApiStop InApiStop := by
  intro H enc fuel cs x h v hv
  subst hv
  exact ⟨OpensI.field fb99_0 (OpensI.int und3) h (v := v.Station) rfl, OpensI.field fb99_1 (OpensI.int und3) h (v := v.Track) rfl, OpensI.field fb99_2 (OpensI.int und3) h (v := v.Arr) rfl, OpensI.field fb99_3 (OpensI.int und3) h (v := v.Dep) rfl⟩
theorem OIApiTrain {W : World} : OpensI Tryz.prog W 111 RApiTrain InApiTrain := by
  intro H enc fuel cs x h v hv
  obtain ⟨_, _, _, _, rfl, h0, h1⟩ := hv
  exact ⟨OpensI.field fb111_0 (OpensI.int und3) h (v := v.No) rfl, OpensI.field fb111_1 (OpensI.int und3) h (v := v.Stock) rfl, OpensI.field fb111_2 (OpensI.slice und109 cel99 (by decide) OIApiStop) h (v := v.Stops) ⟨_, _, rfl, h0⟩, OpensI.field fb111_3 (OpensI.slice und23 cel65 (by decide) (OpensI.slice und65 cel3 (by decide) (OpensI.int und3))) h (v := v.Legs) ⟨_, _, rfl, h1⟩⟩
theorem OIApiDay {W : World} : OpensI Tryz.prog W 25 RApiDay InApiDay := by
  intro H enc fuel cs x h v hv
  obtain ⟨_, _, _, _, rfl, h0, h1⟩ := hv
  exact ⟨OpensI.field fb25_0 (OpensI.slice und22 cel111 (by decide) OIApiTrain) h (v := v.Trains) ⟨_, _, rfl, h0⟩, OpensI.field fb25_1 (OpensI.slice und23 cel65 (by decide) (OpensI.slice und65 cel3 (by decide) (OpensI.int und3))) h (v := v.Turns) ⟨_, _, rfl, h1⟩⟩
theorem und4 : Tryz.prog.underlying 4 = some .bool := by kernel_rfl
end Go.Proofs.YtpcebngchmgckaaGreatDoor
