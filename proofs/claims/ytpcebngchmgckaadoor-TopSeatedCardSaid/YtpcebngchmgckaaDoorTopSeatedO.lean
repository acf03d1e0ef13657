/- What the arguments of the law read as. No condition. -/
import Derived.Test.YtpcebngchmgckaaDoorProg
import Derived.Test.YtpcebngchmgckaaDoorTopSeatedM
import Derived.Test.YtpcebngchmgckaaDoorFpOpen
import Derived.Test.YtpcebngchmgckaaDoorFpIn
namespace Go.Proofs.YtpcebngchmgckaaDoor
open Go Go.Fp
theorem cel106 : Tryd.prog.cellsOf 106 = 4 := by kernel_rfl
theorem cel25 : Tryd.prog.cellsOf 25 = 2 := by kernel_rfl
theorem cel28 : Tryd.prog.cellsOf 28 = 1 := by kernel_rfl
theorem cel3 : Tryd.prog.cellsOf 3 = 1 := by kernel_rfl
theorem cel44 : Tryd.prog.cellsOf 44 = 4 := by kernel_rfl
theorem cel45 : Tryd.prog.cellsOf 45 = 1 := by kernel_rfl
theorem cel47 : Tryd.prog.cellsOf 47 = 3 := by kernel_rfl
theorem fb106_0 : fieldB Tryd.prog 106 0 3 0 1 = true := by kernel_rfl
theorem fb106_1 : fieldB Tryd.prog 106 1 3 1 1 = true := by kernel_rfl
theorem fb106_2 : fieldB Tryd.prog 106 2 3 2 1 = true := by kernel_rfl
theorem fb106_3 : fieldB Tryd.prog 106 3 3 3 1 = true := by kernel_rfl
theorem fb25_0 : fieldB Tryd.prog 25 0 22 0 1 = true := by kernel_rfl
theorem fb25_1 : fieldB Tryd.prog 25 1 23 1 1 = true := by kernel_rfl
theorem fb28_0 : fieldB Tryd.prog 28 0 26 0 1 = true := by kernel_rfl
theorem fb44_0 : fieldB Tryd.prog 44 0 3 0 1 = true := by kernel_rfl
theorem fb44_1 : fieldB Tryd.prog 44 1 3 1 1 = true := by kernel_rfl
theorem fb44_2 : fieldB Tryd.prog 44 2 42 2 1 = true := by kernel_rfl
theorem fb44_3 : fieldB Tryd.prog 44 3 23 3 1 = true := by kernel_rfl
theorem fb47_0 : fieldB Tryd.prog 47 0 3 0 1 = true := by kernel_rfl
theorem fb47_1 : fieldB Tryd.prog 47 1 3 1 1 = true := by kernel_rfl
theorem fb47_2 : fieldB Tryd.prog 47 2 3 2 1 = true := by kernel_rfl
theorem und22 : Tryd.prog.underlying 22 = some (.slice 44) := by kernel_rfl
theorem und23 : Tryd.prog.underlying 23 = some (.slice 45) := by kernel_rfl
theorem und26 : Tryd.prog.underlying 26 = some (.slice 47) := by kernel_rfl
theorem und3 : Tryd.prog.underlying 3 = some (.int .i64) := by kernel_rfl
theorem und39 : Tryd.prog.underlying 39 = some (.slice 28) := by kernel_rfl
theorem und42 : Tryd.prog.underlying 42 = some (.slice 106) := by kernel_rfl
theorem und45 : Tryd.prog.underlying 45 = some (.slice 3) := by kernel_rfl
theorem OApiStop {W : World} : Opens Tryd.prog W 106 RApiStop := by
  intro H enc fuel cs x h
  obtain ⟨hl, v0, h0⟩ := Opens.field fb106_0 (Opens.int und3) h
  obtain ⟨_, v1, h1⟩ := Opens.field fb106_1 (Opens.int und3) h
  obtain ⟨_, v2, h2⟩ := Opens.field fb106_2 (Opens.int und3) h
  obtain ⟨_, v3, h3⟩ := Opens.field fb106_3 (Opens.int und3) h
  rw [cel106] at hl
  match cs, hl with
  | [c0, c1, c2, c3], _ =>
    replace h0 : [c0] = [.int .i64 v0] := h0
    have e0 := h0
    simp only [List.cons.injEq, and_true] at e0
    subst e0
    replace h1 : [c1] = [.int .i64 v1] := h1
    have e1 := h1
    simp only [List.cons.injEq, and_true] at e1
    subst e1
    replace h2 : [c2] = [.int .i64 v2] := h2
    have e2 := h2
    simp only [List.cons.injEq, and_true] at e2
    subst e2
    replace h3 : [c3] = [.int .i64 v3] := h3
    have e3 := h3
    simp only [List.cons.injEq, and_true] at e3
    subst e3
    exact ⟨(ApiStop.mk v0 v1 v2 v3), rfl⟩
theorem OApiTrain {W : World} : Opens Tryd.prog W 44 RApiTrain := by
  intro H enc fuel cs x h
  obtain ⟨hl, v0, h0⟩ := Opens.field fb44_0 (Opens.int und3) h
  obtain ⟨_, v1, h1⟩ := Opens.field fb44_1 (Opens.int und3) h
  obtain ⟨_, v2, h2⟩ := Opens.field fb44_2 (Opens.slice und42 cel106 (by decide) OApiStop) h
  obtain ⟨_, v3, h3⟩ := Opens.field fb44_3 (Opens.slice und23 cel45 (by decide) (Opens.slice und45 cel3 (by decide) (Opens.int und3))) h
  rw [cel44] at hl
  match cs, hl with
  | [c0, c1, c2, c3], _ =>
    replace h0 : [c0] = [.int .i64 v0] := h0
    have e0 := h0
    simp only [List.cons.injEq, and_true] at e0
    subst e0
    replace h1 : [c1] = [.int .i64 v1] := h1
    have e1 := h1
    simp only [List.cons.injEq, and_true] at e1
    subst e1
    obtain ⟨a2_0, k2_0, e2, q2_0⟩ := h2
    replace e2 : [c2] = [.slice a2_0 v2.length k2_0] := e2
    simp only [List.cons.injEq, and_true] at e2
    subst e2
    obtain ⟨a3_0, k3_0, e3, q3_0⟩ := h3
    replace e3 : [c3] = [.slice a3_0 v3.length k3_0] := e3
    simp only [List.cons.injEq, and_true] at e3
    subst e3
    exact ⟨(ApiTrain.mk v0 v1 v2 v3), a2_0, k2_0, a3_0, k3_0, rfl, q2_0, q3_0⟩
theorem OApiDay {W : World} : Opens Tryd.prog W 25 RApiDay := by
  intro H enc fuel cs x h
  obtain ⟨hl, v0, h0⟩ := Opens.field fb25_0 (Opens.slice und22 cel44 (by decide) OApiTrain) h
  obtain ⟨_, v1, h1⟩ := Opens.field fb25_1 (Opens.slice und23 cel45 (by decide) (Opens.slice und45 cel3 (by decide) (Opens.int und3))) h
  rw [cel25] at hl
  match cs, hl with
  | [c0, c1], _ =>
    obtain ⟨a0_0, k0_0, e0, q0_0⟩ := h0
    replace e0 : [c0] = [.slice a0_0 v0.length k0_0] := e0
    simp only [List.cons.injEq, and_true] at e0
    subst e0
    obtain ⟨a1_0, k1_0, e1, q1_0⟩ := h1
    replace e1 : [c1] = [.slice a1_0 v1.length k1_0] := e1
    simp only [List.cons.injEq, and_true] at e1
    subst e1
    exact ⟨(ApiDay.mk v0 v1), a0_0, k0_0, a1_0, k1_0, rfl, q0_0, q1_0⟩
theorem OGuideRide {W : World} : Opens Tryd.prog W 47 RGuideRide := by
  intro H enc fuel cs x h
  obtain ⟨hl, v0, h0⟩ := Opens.field fb47_0 (Opens.int und3) h
  obtain ⟨_, v1, h1⟩ := Opens.field fb47_1 (Opens.int und3) h
  obtain ⟨_, v2, h2⟩ := Opens.field fb47_2 (Opens.int und3) h
  rw [cel47] at hl
  match cs, hl with
  | [c0, c1, c2], _ =>
    replace h0 : [c0] = [.int .i64 v0] := h0
    have e0 := h0
    simp only [List.cons.injEq, and_true] at e0
    subst e0
    replace h1 : [c1] = [.int .i64 v1] := h1
    have e1 := h1
    simp only [List.cons.injEq, and_true] at e1
    subst e1
    replace h2 : [c2] = [.int .i64 v2] := h2
    have e2 := h2
    simp only [List.cons.injEq, and_true] at e2
    subst e2
    exact ⟨(GuideRide.mk v0 v1 v2), rfl⟩
theorem OGuideJourney {W : World} : Opens Tryd.prog W 28 RGuideJourney := by
  intro H enc fuel cs x h
  obtain ⟨hl, v0, h0⟩ := Opens.field fb28_0 (Opens.slice und26 cel47 (by decide) OGuideRide) h
  rw [cel28] at hl
  match cs, hl with
  | [c0], _ =>
    obtain ⟨a0_0, k0_0, e0, q0_0⟩ := h0
    replace e0 : [c0] = [.slice a0_0 v0.length k0_0] := e0
    simp only [List.cons.injEq, and_true] at e0
    subst e0
    exact ⟨(GuideJourney.mk v0), a0_0, k0_0, rfl, q0_0⟩

theorem OIApiStop {W : World} : OpensI Tryd.prog W 106 RApiStop InApiStop := by
  intro H enc fuel cs x h v hv
  subst hv
  exact ⟨OpensI.field fb106_0 (OpensI.int und3) h (v := v.Station) rfl, OpensI.field fb106_1 (OpensI.int und3) h (v := v.Track) rfl, OpensI.field fb106_2 (OpensI.int und3) h (v := v.Arr) rfl, OpensI.field fb106_3 (OpensI.int und3) h (v := v.Dep) rfl⟩
theorem OIApiTrain {W : World} : OpensI Tryd.prog W 44 RApiTrain InApiTrain := by
  intro H enc fuel cs x h v hv
  obtain ⟨_, _, _, _, rfl, h0, h1⟩ := hv
  exact ⟨OpensI.field fb44_0 (OpensI.int und3) h (v := v.No) rfl, OpensI.field fb44_1 (OpensI.int und3) h (v := v.Stock) rfl, OpensI.field fb44_2 (OpensI.slice und42 cel106 (by decide) OIApiStop) h (v := v.Stops) ⟨_, _, rfl, h0⟩, OpensI.field fb44_3 (OpensI.slice und23 cel45 (by decide) (OpensI.slice und45 cel3 (by decide) (OpensI.int und3))) h (v := v.Legs) ⟨_, _, rfl, h1⟩⟩
theorem OIApiDay {W : World} : OpensI Tryd.prog W 25 RApiDay InApiDay := by
  intro H enc fuel cs x h v hv
  obtain ⟨_, _, _, _, rfl, h0, h1⟩ := hv
  exact ⟨OpensI.field fb25_0 (OpensI.slice und22 cel44 (by decide) OIApiTrain) h (v := v.Trains) ⟨_, _, rfl, h0⟩, OpensI.field fb25_1 (OpensI.slice und23 cel45 (by decide) (OpensI.slice und45 cel3 (by decide) (OpensI.int und3))) h (v := v.Turns) ⟨_, _, rfl, h1⟩⟩
theorem OIGuideRide {W : World} : OpensI Tryd.prog W 47 RGuideRide InGuideRide := by
  intro H enc fuel cs x h v hv
  subst hv
  exact ⟨OpensI.field fb47_0 (OpensI.int und3) h (v := v.Train) rfl, OpensI.field fb47_1 (OpensI.int und3) h (v := v.On) rfl, OpensI.field fb47_2 (OpensI.int und3) h (v := v.Off) rfl⟩
theorem OIGuideJourney {W : World} : OpensI Tryd.prog W 28 RGuideJourney InGuideJourney := by
  intro H enc fuel cs x h v hv
  obtain ⟨_, _, rfl, h0⟩ := hv
  exact OpensI.field fb28_0 (OpensI.slice und26 cel47 (by decide) OIGuideRide) h (v := v.Rides) ⟨_, _, rfl, h0⟩
theorem und4 : Tryd.prog.underlying 4 = some .bool := by kernel_rfl
end Go.Proofs.YtpcebngchmgckaaDoor
