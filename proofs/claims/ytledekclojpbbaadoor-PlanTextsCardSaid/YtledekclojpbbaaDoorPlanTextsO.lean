/- What the arguments of the law read as. No condition. -/
import Derived.Test.YtledekclojpbbaaDoorProg
import Derived.Test.YtledekclojpbbaaDoorPlanTextsM
import Derived.Test.YtledekclojpbbaaDoorFpOpen
import Derived.Test.YtledekclojpbbaaDoorFpIn
namespace Go.Proofs.YtledekclojpbbaaDoor
open Go Go.Fp
theorem cel23 : Tryd.prog.cellsOf 23 = 1 := by kernel_rfl
theorem cel3 : Tryd.prog.cellsOf 3 = 1 := by kernel_rfl
theorem cel33 : Tryd.prog.cellsOf 33 = 2 := by kernel_rfl
theorem cel64 : Tryd.prog.cellsOf 64 = 4 := by kernel_rfl
theorem cel67 : Tryd.prog.cellsOf 67 = 4 := by kernel_rfl
theorem fb33_0 : fieldB Tryd.prog 33 0 30 0 1 = true := by kernel_rfl
theorem fb33_1 : fieldB Tryd.prog 33 1 31 1 1 = true := by kernel_rfl
theorem fb64_0 : fieldB Tryd.prog 64 0 3 0 1 = true := by kernel_rfl
theorem fb64_1 : fieldB Tryd.prog 64 1 3 1 1 = true := by kernel_rfl
theorem fb64_2 : fieldB Tryd.prog 64 2 3 2 1 = true := by kernel_rfl
theorem fb64_3 : fieldB Tryd.prog 64 3 3 3 1 = true := by kernel_rfl
theorem fb67_0 : fieldB Tryd.prog 67 0 3 0 1 = true := by kernel_rfl
theorem fb67_1 : fieldB Tryd.prog 67 1 3 1 1 = true := by kernel_rfl
theorem fb67_2 : fieldB Tryd.prog 67 2 65 2 1 = true := by kernel_rfl
theorem fb67_3 : fieldB Tryd.prog 67 3 31 3 1 = true := by kernel_rfl
theorem und23 : Tryd.prog.underlying 23 = some (.slice 3) := by kernel_rfl
theorem und3 : Tryd.prog.underlying 3 = some (.int .i64) := by kernel_rfl
theorem und30 : Tryd.prog.underlying 30 = some (.slice 67) := by kernel_rfl
theorem und31 : Tryd.prog.underlying 31 = some (.slice 23) := by kernel_rfl
theorem und65 : Tryd.prog.underlying 65 = some (.slice 64) := by kernel_rfl
theorem OApiStop {W : World} : Opens Tryd.prog W 64 RApiStop := by
  intro H enc fuel cs x h
  obtain ⟨hl, v0, h0⟩ := Opens.field fb64_0 (Opens.int und3) h
  obtain ⟨_, v1, h1⟩ := Opens.field fb64_1 (Opens.int und3) h
  obtain ⟨_, v2, h2⟩ := Opens.field fb64_2 (Opens.int und3) h
  obtain ⟨_, v3, h3⟩ := Opens.field fb64_3 (Opens.int und3) h
  rw [cel64] at hl
  match cs, hl with
  | [c0, c1, c2, c3], _ =>
    replace h0 : [c0] = [.int .i64 v0] := h0
    have e0 := h0
    simp only [List.cons.injEq, and_true] at e0
    subst e0
    replace h1 : [c1] = [.int .i64 v1] := h1
    have e1 := h1
    simp only [List.cons.injEq, and_true] at e1
    subst e1
    replace h2 : [c2] = [.int .i64 v2] := h2
    have e2 := h2
    simp only [List.cons.injEq, and_true] at e2
    subst e2
    replace h3 : [c3] = [.int .i64 v3] := h3
    have e3 := h3
    simp only [List.cons.injEq, and_true] at e3
    subst e3
    exact ⟨(ApiStop.mk v0 v1 v2 v3), rfl⟩
theorem OApiTrain {W : World} : Opens Tryd.prog W 67 RApiTrain := by
  intro H enc fuel cs x h
  obtain ⟨hl, v0, h0⟩ := Opens.field fb67_0 (Opens.int und3) h
  obtain ⟨_, v1, h1⟩ := Opens.field fb67_1 (Opens.int und3) h
  obtain ⟨_, v2, h2⟩ := Opens.field fb67_2 (Opens.slice und65 cel64 (by decide) OApiStop) h
  obtain ⟨_, v3, h3⟩ := Opens.field fb67_3 (Opens.slice und31 cel23 (by decide) (Opens.slice und23 cel3 (by decide) (Opens.int und3))) h
  rw [cel67] at hl
  match cs, hl with
  | [c0, c1, c2, c3], _ =>
    replace h0 : [c0] = [.int .i64 v0] := h0
    have e0 := h0
    simp only [List.cons.injEq, and_true] at e0
    subst e0
    replace h1 : [c1] = [.int .i64 v1] := h1
    have e1 := h1
    simp only [List.cons.injEq, and_true] at e1
    subst e1
    obtain ⟨a2_0, k2_0, e2, q2_0⟩ := h2
    replace e2 : [c2] = [.slice a2_0 v2.length k2_0] := e2
    simp only [List.cons.injEq, and_true] at e2
    subst e2
    obtain ⟨a3_0, k3_0, e3, q3_0⟩ := h3
    replace e3 : [c3] = [.slice a3_0 v3.length k3_0] := e3
    simp only [List.cons.injEq, and_true] at e3
    subst e3
    exact ⟨(ApiTrain.mk v0 v1 v2 v3), a2_0, k2_0, a3_0, k3_0, rfl, q2_0, q3_0⟩
theorem OApiDay {W : World} : Opens Tryd.prog W 33 RApiDay := by
  intro H enc fuel cs x h
  obtain ⟨hl, v0, h0⟩ := Opens.field fb33_0 (Opens.slice und30 cel67 (by decide) OApiTrain) h
  obtain ⟨_, v1, h1⟩ := Opens.field fb33_1 (Opens.slice und31 cel23 (by decide) (Opens.slice und23 cel3 (by decide) (Opens.int und3))) h
  rw [cel33] at hl
  match cs, hl with
  | [c0, c1], _ =>
    obtain ⟨a0_0, k0_0, e0, q0_0⟩ := h0
    replace e0 : [c0] = [.slice a0_0 v0.length k0_0] := e0
    simp only [List.cons.injEq, and_true] at e0
    subst e0
    obtain ⟨a1_0, k1_0, e1, q1_0⟩ := h1
    replace e1 : [c1] = [.slice a1_0 v1.length k1_0] := e1
    simp only [List.cons.injEq, and_true] at e1
    subst e1
    exact ⟨(ApiDay.mk v0 v1), a0_0, k0_0, a1_0, k1_0, rfl, q0_0, q1_0⟩

theorem OIApiStop {W : World} : OpensI Tryd.prog W 64 RApiStop InApiStop := by
  intro H enc fuel cs x h v hv
  subst hv
  exact ⟨OpensI.field fb64_0 (OpensI.int und3) h (v := v.Station) rfl, OpensI.field fb64_1 (OpensI.int und3) h (v := v.Track) rfl, OpensI.field fb64_2 (OpensI.int und3) h (v := v.Arr) rfl, OpensI.field fb64_3 (OpensI.int und3) h (v := v.Dep) rfl⟩
theorem OIApiTrain {W : World} : OpensI Tryd.prog W 67 RApiTrain InApiTrain := by
  intro H enc fuel cs x h v hv
  obtain ⟨_, _, _, _, rfl, h0, h1⟩ := hv
  exact ⟨OpensI.field fb67_0 (OpensI.int und3) h (v := v.No) rfl, OpensI.field fb67_1 (OpensI.int und3) h (v := v.Stock) rfl, OpensI.field fb67_2 (OpensI.slice und65 cel64 (by decide) OIApiStop) h (v := v.Stops) ⟨_, _, rfl, h0⟩, OpensI.field fb67_3 (OpensI.slice und31 cel23 (by decide) (OpensI.slice und23 cel3 (by decide) (OpensI.int und3))) h (v := v.Legs) ⟨_, _, rfl, h1⟩⟩
theorem OIApiDay {W : World} : OpensI Tryd.prog W 33 RApiDay InApiDay := by
  intro H enc fuel cs x h v hv
  obtain ⟨_, _, _, _, rfl, h0, h1⟩ := hv
  exact ⟨OpensI.field fb33_0 (OpensI.slice und30 cel67 (by decide) OIApiTrain) h (v := v.Trains) ⟨_, _, rfl, h0⟩, OpensI.field fb33_1 (OpensI.slice und31 cel23 (by decide) (OpensI.slice und23 cel3 (by decide) (OpensI.int und3))) h (v := v.Turns) ⟨_, _, rfl, h1⟩⟩
theorem und4 : Tryd.prog.underlying 4 = some .bool := by kernel_rfl
end Go.Proofs.YtledekclojpbbaaDoor
